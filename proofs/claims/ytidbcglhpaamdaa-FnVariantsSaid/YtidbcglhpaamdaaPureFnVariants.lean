/- The pure statement of the law FnVariants: what the Go functions compute, told by plain Lean functions, is what the law asks, for all arguments. No condition beyond the printed ones. -/
import Derived.Test.YtidbcglhpaamdaaPFnVariantsx12
import Derived.Test.YtidbcglhpaamdaaXW
namespace Go.Proofs.Ytidbcglhpaamdaa.Pure
open Go.RowKit Go.Proofs.Ytidbcglhpaamdaa.PFnVariants Go.Proofs.YtidbcglhpaamdaaW.PrintWords Go.Proofs.YtidbcglhpaamdaaW.PrintLast Go.Proofs.YtidbcglhpaamdaaW.PrintMore Go.Proofs.YtidbcglhpaamdaaXW
set_option linter.unusedVariables false
set_option linter.unusedSimpArgs false
def risQ (l : List Int) (lo hi : Int) (j : Nat) : Bool := decide (lo ≤ l.getD j 0 ∧ l.getD j 0 ≤ hi) && (decide (j = 0) || decide (l.getD (j - 1) 0 < l.getD j 0))
theorem in_eq (a b c : Int) : spec_l00In.f a b c = some (decide (b ≤ a ∧ a ≤ c)) := by
  unfold spec_l00In.f; split <;> simp_all; omega
theorem within_eq (a b c : Int) : impl_within.f a b c = some (decide (b ≤ a ∧ a ≤ c)) := by
  unfold impl_within.f; split <;> simp_all; omega
theorem allIn_eq (l : List Int) (a b : Int) : impl_allWithin.f l a b = some (l.all fun x => decide (a ≤ x ∧ x ≤ b)) := by
  unfold impl_allWithin.f
  rw [List.not_any_eq_all_not]
  congr 2
  funext x
  simp [allP]
theorem sHas_l0 (l : List Int) (n : Int) (hl : l.length ≤ 35184372088832) (d : Nat) : ∀ (i : Nat), i + d = l.length → Ev (fun k => spec_l00Has.l0 k l n i) (decide (n ∈ l.drop i)) := by
  induction d with
  | zero =>
    intro i h1
    refine Ev.shift ?_
    simp only [spec_l00Has.l0]
    refine Ev.neg (by omega) (Ev.some ?_)
    rw [List.drop_of_length_le (by omega)]; simp
  | succ d ih =>
    intro i h1
    refine Ev.shift ?_
    simp only [spec_l00Has.l0]
    refine Ev.pos (by omega) (Ev.pos (by omega) ?_)
    rw [rd_get l i (by omega), List.drop_eq_getElem_cons (by omega)]
    by_cases h : l[i] = n
    · exact Ev.pos h (Ev.some (by rw [h]; simp))
    · refine Ev.neg h ?_
      rw [wid (by omega)]
      refine Ev.same (ih (i + 1) (by omega)) ?_
      rw [decide_eq_decide, List.mem_cons]
      exact ⟨fun h2 => Or.inr h2, fun h2 => h2.elim (fun e => absurd e.symm h) id⟩
theorem sHas (l : List Int) (n : Int) (hl : l.length ≤ 35184372088832) : Ev (fun k => spec_l00Has.f k l n) (decide (n ∈ l)) := by
  unfold spec_l00Has.f
  have := sHas_l0 l n hl l.length 0 (by omega)
  simpa using this
def chQ (s : ByteArray) (j : Nat) : Bool := decide (97 ≤ bt s j ∧ bt s j ≤ 122) || decide (48 ≤ bt s j ∧ bt s j ≤ 57)
def nameB (s : ByteArray) : Bool := decide (1 ≤ s.size ∧ s.size ≤ 10) && (decide (97 ≤ bt s 0 ∧ bt s 0 ≤ 122) && allF (chQ s) s.size 0)
theorem small_eq (a : Int) : spec_l01Small.f a = some (decide (97 ≤ a ∧ a ≤ 122)) := by
  unfold spec_l01Small.f; split <;> simp_all; omega
theorem digit_eq (a : Int) : spec_l01Digit.f a = some (decide (48 ≤ a ∧ a ≤ 57)) := by
  unfold spec_l01Digit.f; split <;> simp_all; omega
theorem sName_l0 (s : ByteArray) (hs : s.size ≤ 10) (d : Nat) : ∀ (i : Nat), i + d = s.size → Ev (fun k => spec_l01Name.l0 k s i) (allF (chQ s) s.size i) := by
  induction d with
  | zero =>
    intro i h1
    refine Ev.shift ?_
    simp only [spec_l01Name.l0]
    exact Ev.neg (by omega) (Ev.some (by rw [allF_end _ (by omega)]))
  | succ d ih =>
    intro i h1
    have w1 : wrap64 ((i : Int) + 1) = ((i + 1 : Nat) : Int) := by rw [wid (by omega)]; rfl
    refine Ev.shift ?_
    simp only [spec_l01Name.l0, small_eq, digit_eq, Option.bind_some, w1]
    refine Ev.pos (by omega) (Ev.pos (by omega) ?_)
    by_cases a : 97 ≤ bt s i ∧ bt s i ≤ 122
    · rw [allF_yes _ (show chQ s i = true by unfold chQ; rw [decide_eq_true a]; rfl)]
      exact Ev.pos (decide_eq_true a) (ih (i + 1) (by omega))
    · refine Ev.neg (by rw [decide_eq_true_iff]; exact a) ?_
      by_cases b : 48 ≤ bt s i ∧ bt s i ≤ 57
      · rw [allF_yes _ (show chQ s i = true by unfold chQ; rw [decide_eq_true b, Bool.or_true])]
        exact Ev.pos (decide_eq_true b) (ih (i + 1) (by omega))
      · rw [allF_no _ (by omega) (show chQ s i = false by unfold chQ; rw [decide_eq_false a, decide_eq_false b]; rfl)]
        exact Ev.neg (by rw [decide_eq_true_iff]; exact b) (Ev.now _)
theorem sName (s : ByteArray) : Ev (fun k => spec_l01Name.f k s) (nameB s) := by
  unfold spec_l01Name.f nameB
  simp only [small_eq, Option.bind_some]
  have e : s.toList.length = s.size := by rw [ByteArray.toList_eq]; simp
  have f : Ev (fun k => spec_l01Name.j0 k s true) false := by
    refine Ev.shift ?_
    simp only [spec_l01Name.j0]
    exact Ev.pos trivial (Ev.now _)
  by_cases h0 : s.toList = []
  · refine Ev.pos h0 ?_
    rw [h0] at e
    rw [decide_eq_false (by simp at e; omega)]
    exact f
  · refine Ev.neg h0 ?_
    have hp : 0 < s.toList.length := List.length_pos_iff.2 h0
    by_cases h1 : (s.size : Int) > 10
    · refine Ev.pos h1 ?_
      rw [decide_eq_false (show ¬ (1 ≤ s.size ∧ s.size ≤ 10) by omega)]
      exact f
    · refine Ev.neg h1 (Ev.pos (by omega) ?_)
      rw [decide_eq_true (show 1 ≤ s.size ∧ s.size ≤ 10 by omega), Bool.true_and]
      cases hb : decide (97 ≤ bt s 0 ∧ bt s 0 ≤ 122) with
      | false => exact f
      | true =>
        refine Ev.shift ?_
        simp only [spec_l01Name.j0]
        exact Ev.neg (by decide) (sName_l0 s (by omega) s.size 0 (by omega))
theorem iName_l0 (s : ByteArray) (hs : s.size ≤ 10) (d : Nat) : ∀ (i : Nat), i + d = s.size → Ev (fun k => impl_onlyNameBytes.l0 k s (s.size : Int) i) (allF (chQ s) s.size i) := by
  induction d with
  | zero =>
    intro i h1
    refine Ev.shift ?_
    simp only [impl_onlyNameBytes.l0]
    exact Ev.neg (by omega) (Ev.some (by rw [allF_end _ (by omega)]))
  | succ d ih =>
    intro i h1
    have w1 : wrap64 ((i : Int) + 1) = ((i + 1 : Nat) : Int) := by rw [wid (by omega)]; rfl
    refine Ev.shift ?_
    simp only [impl_onlyNameBytes.l0, w1]
    refine Ev.pos (by omega) (Ev.pos (by omega) (Ev.pos (by omega) ?_))
    by_cases a : 97 ≤ bt s i ∧ bt s i ≤ 122
    · rw [allF_yes _ (show chQ s i = true by unfold chQ; rw [decide_eq_true a]; rfl)]
      exact Ev.neg (by omega) (Ev.neg (by omega) (ih (i + 1) (by omega)))
    · by_cases b : 48 ≤ bt s i ∧ bt s i ≤ 57
      · rw [allF_yes _ (show chQ s i = true by unfold chQ; rw [decide_eq_true b, Bool.or_true])]
        exact Ev.pos (by omega) (Ev.neg (by omega) (Ev.neg (by omega) (ih (i + 1) (by omega))))
      · rw [allF_no _ (by omega) (show chQ s i = false by unfold chQ; rw [decide_eq_false a, decide_eq_false b]; rfl)]
        by_cases c : bt s i < 97
        · refine Ev.pos c ?_
          by_cases c2 : bt s i < 48
          · exact Ev.pos c2 (Ev.now _)
          · exact Ev.neg c2 (Ev.pos (by omega) (Ev.now _))
        · exact Ev.neg c (Ev.pos (by omega) (Ev.neg (by omega) (Ev.pos (by omega) (Ev.now _))))
theorem iName (s : ByteArray) : Ev (fun k => impl_IsName.f k s) (nameB s) := by
  unfold impl_IsName.f nameB impl_onlyNameBytes.f
  by_cases h0 : (s.size : Int) < 1
  · rw [decide_eq_false (show ¬ (1 ≤ s.size ∧ s.size ≤ 10) by omega)]
    exact Ev.pos h0 (Ev.now _)
  · refine Ev.neg h0 ?_
    by_cases h1 : (s.size : Int) > 10
    · rw [decide_eq_false (show ¬ (1 ≤ s.size ∧ s.size ≤ 10) by omega)]
      exact Ev.pos h1 (Ev.now _)
    · rw [decide_eq_true (show 1 ≤ s.size ∧ s.size ≤ 10 by omega), Bool.true_and]
      refine Ev.neg h1 (Ev.pos (by omega) ?_)
      by_cases a : bt s 0 < 97
      · rw [decide_eq_false (show ¬ (97 ≤ bt s 0 ∧ bt s 0 ≤ 122) by omega)]
        exact Ev.pos a (Ev.now _)
      · refine Ev.neg a ?_
        by_cases b : bt s 0 > 122
        · rw [decide_eq_false (show ¬ (97 ≤ bt s 0 ∧ bt s 0 ≤ 122) by omega)]
          exact Ev.pos b (Ev.now _)
        · rw [decide_eq_true (show 97 ≤ bt s 0 ∧ bt s 0 ≤ 122 by omega), Bool.true_and]
          exact Ev.neg b (Ev.bind (iName_l0 s (by omega) s.size 0 (by omega)) (Ev.now _))
def sylB (x : S66) : Bool := nameB x.f0 && (decide ((x.f0.size : Int) ≤ 6) && (decide (1 ≤ x.f1 ∧ x.f1 ≤ 3) && decide (1 ≤ x.f2 ∧ x.f2 ≤ 8)))
theorem dec_and (p q : Prop) [Decidable p] [Decidable q] : (decide p && decide q) = decide (p ∧ q) := by
  by_cases p <;> by_cases q <;> simp [*]
theorem sSyl (x : S66) : Ev (fun k => spec_l18One_at.f k x.f0 x.f1 x.f2) (sylB x) := by
  unfold spec_l18One_at.f
  refine Ev.bind (sName x.f0) (Ev.same (Ev.now _) ?_)
  unfold sylB
  rw [dec_and, dec_and]
theorem rdSy (l : List S66) (i : Nat) : rd_T66 l (i : Int) = l.getD i z66 := by
  unfold rd_T66
  rw [Int.toNat_natCast]
def syQ (l : List S66) (j : Nat) : Bool := sylB (l.getD j z66) && (decide (j = 0) || Op.bytesLess (l.getD (j - 1) z66).f0.toList (l.getD j z66).f0.toList)
def sylsB (l : List S66) : Bool := allF (syQ l) l.length 0 && decide ((l.length : Int) ≤ 16)
theorem sSyls_l0 (l : List S66) (hl : l.length ≤ 8796093022208) (d : Nat) : ∀ (i : Nat), i + d = l.length → Ev (fun k => spec_l18Ok.l0 k l i) (allF (syQ l) l.length i && decide ((l.length : Int) ≤ 16)) := by
  induction d with
  | zero =>
    intro i h1
    refine Ev.shift ?_
    simp only [spec_l18Ok.l0]
    exact Ev.neg (by omega) (Ev.some (by rw [allF_end _ (by omega), Bool.true_and]))
  | succ d ih =>
    intro i h1
    have w1 : wrap64 ((i : Int) + 1) = ((i + 1 : Nat) : Int) := by rw [wid (by omega)]; rfl
    refine Ev.shift ?_
    simp only [spec_l18Ok.l0, rdSy, w1]
    refine Ev.pos (by omega) (Ev.pos (by omega) (Ev.bind (sSyl _) ?_))
    cases hb : sylB (l.getD i z66) with
    | false =>
      rw [allF_no _ (by omega) (show syQ l i = false by unfold syQ; rw [hb]; rfl)]
      exact Ev.neg (by decide) (Ev.now _)
    | true =>
      refine Ev.pos rfl ?_
      cases i with
      | zero =>
        rw [allF_yes _ (show syQ l 0 = true by unfold syQ; rw [hb]; rfl)]
        exact Ev.neg (by omega) (ih 1 (by omega))
      | succ i =>
        refine Ev.pos (by omega) ?_
        have e1 : wrap64 (((i + 1 : Nat) : Int) - 1) = (i : Int) := by rw [wid (by omega)]; omega
        rw [e1, rdSy]
        refine Ev.pos (by omega) (Ev.pos (by omega) ?_)
        have e2 : syQ l (i + 1) = Op.bytesLess (l.getD i z66).f0.toList (l.getD (i + 1) z66).f0.toList := by
          unfold syQ
          rw [hb, decide_eq_false (by omega), Bool.true_and, Bool.false_or]
          rfl
        cases hc : Op.bytesLess (l.getD i z66).f0.toList (l.getD (i + 1) z66).f0.toList with
        | true =>
          rw [allF_yes _ (e2.trans hc)]
          exact Ev.pos rfl (ih (i + 2) (by omega))
        | false =>
          rw [allF_no _ (by omega) (e2.trans hc)]
          exact Ev.neg (by decide) (Ev.now _)
theorem sSyls (l : List S66) (hl : l.length ≤ 8796093022208) : Ev (fun k => spec_l18Ok.f k l) (sylsB l) :=
  sSyls_l0 l hl l.length 0 (by omega)
theorem iSyl (x : S66) : Ev (fun k => impl_ValidSyllable.f k x.f0 x.f1 x.f2) (sylB x) := by
  unfold impl_ValidSyllable.f sylB
  simp only [within_eq, Option.bind_some]
  refine Ev.bind (iName x.f0) ?_
  cases nameB x.f0 with
  | false => exact Ev.neg (by decide) (Ev.now _)
  | true =>
    refine Ev.pos rfl ?_
    rw [Bool.true_and]
    by_cases h : (x.f0.size : Int) ≤ 6
    · rw [decide_eq_true h, Bool.true_and]
      refine Ev.pos h ?_
      cases decide (1 ≤ x.f1 ∧ x.f1 ≤ 3) with
      | false => exact Ev.neg (by decide) (Ev.now _)
      | true => exact Ev.pos rfl (Ev.now _)
    · rw [decide_eq_false h, Bool.false_and]
      exact Ev.neg h (Ev.now _)
theorem iSyls_l0 (l : List S66) (hl : l.length ≤ 16) (d : Nat) : ∀ (i : Nat), i + d = l.length → Ev (fun k => impl_ValidSyllables.l0 k l l (l.length : Int) i) (allF (syQ l) l.length i) := by
  induction d with
  | zero =>
    intro i h1
    refine Ev.shift ?_
    simp only [impl_ValidSyllables.l0]
    exact Ev.neg (by omega) (Ev.some (by rw [allF_end _ (by omega)]))
  | succ d ih =>
    intro i h1
    have w1 : wrap64 ((i : Int) + 1) = ((i + 1 : Nat) : Int) := by rw [wid (by omega)]; rfl
    refine Ev.shift ?_
    simp only [impl_ValidSyllables.l0, rdSy, w1]
    refine Ev.pos (by omega) (Ev.pos (by omega) (Ev.pos (by omega) (Ev.bind (iSyl _) ?_)))
    cases hb : sylB (l.getD i z66) with
    | false =>
      rw [allF_no _ (by omega) (show syQ l i = false by unfold syQ; rw [hb]; rfl)]
      exact Ev.neg (by decide) (Ev.now _)
    | true =>
      refine Ev.pos rfl ?_
      cases i with
      | zero =>
        rw [allF_yes _ (show syQ l 0 = true by unfold syQ; rw [hb]; rfl)]
        exact Ev.neg (by omega) (ih 1 (by omega))
      | succ i =>
        refine Ev.pos (by omega) ?_
        have e1 : wrap64 (((i + 1 : Nat) : Int) - 1) = (i : Int) := by rw [wid (by omega)]; omega
        rw [e1, rdSy]
        refine Ev.pos (by omega) (Ev.pos (by omega) ?_)
        have e2 : syQ l (i + 1) = Op.bytesLess (l.getD i z66).f0.toList (l.getD (i + 1) z66).f0.toList := by
          unfold syQ
          rw [hb, decide_eq_false (by omega), Bool.true_and, Bool.false_or]
          rfl
        cases hc : Op.bytesLess (l.getD i z66).f0.toList (l.getD (i + 1) z66).f0.toList with
        | true =>
          rw [allF_yes _ (e2.trans hc)]
          exact Ev.pos rfl (ih (i + 2) (by omega))
        | false =>
          rw [allF_no _ (by omega) (e2.trans hc)]
          exact Ev.neg (by decide) (Ev.now _)
theorem iSyls (l : List S66) : Ev (fun k => impl_ValidSyllables.f k l) (sylsB l) := by
  unfold impl_ValidSyllables.f sylsB
  by_cases h : (l.length : Int) > 16
  · rw [decide_eq_false (show ¬ (l.length : Int) ≤ 16 by omega), Bool.and_false]
    exact Ev.pos h (Ev.now _)
  · rw [decide_eq_true (show (l.length : Int) ≤ 16 by omega), Bool.and_true]
    exact Ev.neg h (iSyls_l0 l (by omega) l.length 0 (by omega))
def thQ (n : Nat) (t : List Int) (j : Nat) : Bool := decide (0 ≤ t.getD j 0 ∧ t.getD j 0 ≤ (n : Int) - 1)
def thB (n : Nat) (t : List Int) : Bool := allF (thQ n t) t.length 0 && decide (1 ≤ t.length ∧ t.length ≤ 32)
theorem sComposed_l0 (l : List S66) (t : List Int) (hl : l.length ≤ 8796093022208) (ht : t.length ≤ 35184372088832) (d : Nat) : ∀ (i : Nat), i + d = t.length → Ev (fun k => spec_l18Composed.l0 k l t i) (allF (thQ l.length t) t.length i && decide ((t.length : Int) ≤ 64)) := by
  induction d with
  | zero =>
    intro i h1
    refine Ev.shift ?_
    simp only [spec_l18Composed.l0]
    exact Ev.neg (by omega) (Ev.some (by rw [allF_end _ (by omega), Bool.true_and]))
  | succ d ih =>
    intro i h1
    have w1 : wrap64 ((i : Int) + 1) = ((i + 1 : Nat) : Int) := by rw [wid (by omega)]; rfl
    have w2 : wrap64 ((l.length : Int) - 1) = (l.length : Int) - 1 := wid (by omega)
    refine Ev.shift ?_
    simp only [spec_l18Composed.l0, rd_nat, w1, w2, in_eq, Option.bind_some]
    refine Ev.pos (by omega) (Ev.pos (by omega) ?_)
    cases hb : thQ l.length t i with
    | true =>
      rw [allF_yes _ hb]
      exact Ev.pos hb (ih (i + 1) (by omega))
    | false =>
      rw [allF_no _ (by omega) hb]
      refine Ev.neg ?_ (Ev.now _)
      rw [show decide (0 ≤ t.getD i 0 ∧ t.getD i 0 ≤ (l.length : Int) - 1) = false from hb]
      decide
theorem sTheme (l : List S66) (t : List Int) (hl : l.length ≤ 8796093022208) (ht : t.length ≤ 35184372088832) : Ev (fun k => spec_l20Theme.f k l t) (thB l.length t) := by
  unfold spec_l20Theme.f thB
  have h := sComposed_l0 l t hl ht t.length 0 (by omega)
  cases ha : allF (thQ l.length t) t.length 0 with
  | false =>
    rw [ha] at h
    exact Ev.bind h (Ev.neg (by simp) (Ev.now _))
  | true =>
    rw [ha, Bool.true_and] at h
    refine Ev.bind h ?_
    rw [Bool.true_and]
    by_cases h1 : (t.length : Int) ≤ 64
    · refine Ev.pos (decide_eq_true h1) ?_
      by_cases h2 : (t.length : Int) ≥ 1
      · exact Ev.pos h2 (Ev.some (by rw [Option.some_inj, decide_eq_decide]; omega))
      · exact Ev.neg h2 (Ev.some (by rw [decide_eq_false (show ¬ (1 ≤ t.length ∧ t.length ≤ 32) by omega)]))
    · refine Ev.neg (by rw [decide_eq_true_iff]; exact h1) (Ev.some ?_)
      rw [decide_eq_false (show ¬ (1 ≤ t.length ∧ t.length ≤ 32) by omega)]
def thCode (l : List S66) (t : List Int) (x : Int) : Int := if sylsB l = true then (if thB l.length t = true then (if 1 ≤ x ∧ x ≤ 32 then 0 else 2) else 7) else 1
theorem thCode_len {l : List S66} {t : List Int} {x : Int} (h : thCode l t x = 0) : (1 ≤ t.length ∧ t.length ≤ 32) ∧ 1 ≤ x ∧ x ≤ 32 := by
  unfold thCode at h
  split at h
  · split at h
    · rename_i h2
      unfold thB at h2
      rw [Bool.and_eq_true, decide_eq_true_iff] at h2
      split at h
      · exact ⟨h2.2, by assumption⟩
      · cases h
    · cases h
  · cases h
theorem thCode_two {l : List S66} {t : List Int} {x : Int} : thCode l t x = if thCode l t 1 = 0 then (if 1 ≤ x ∧ x ≤ 32 then 0 else 2) else thCode l t 1 := by
  unfold thCode
  by_cases h1 : sylsB l = true
  · by_cases h2 : thB l.length t = true
    · simp [h1, h2]
    · simp [h1, h2]
  · simp [h1]
theorem iTheme (l : List S66) (t : List Int) (x : Int) (hl : l.length ≤ 8796093022208) : Ev (fun k => impl_themeCode.f k l t x) (thCode l t x) := by
  unfold impl_themeCode.f thCode
  have hs := iSyls l
  cases v : sylsB l with
  | false =>
    rw [v] at hs
    rw [if_neg (show ¬ (false = true) by decide)]
    exact Ev.bind hs (Ev.neg (by decide) (Ev.now _))
  | true =>
    rw [v] at hs
    rw [if_pos (show true = true from rfl)]
    refine Ev.bind hs (Ev.pos rfl ?_)
    have f : Ev (fun k => impl_themeCode.j0 k x true) 7 := by
      refine Ev.shift ?_
      simp only [impl_themeCode.j0]
      exact Ev.pos trivial (Ev.now _)
    by_cases h1 : (t.length : Int) < 1
    · rw [show thB l.length t = false by unfold thB; rw [decide_eq_false (by omega), Bool.and_false], if_neg (show ¬ (false = true) by decide)]
      exact Ev.pos h1 f
    · refine Ev.neg h1 ?_
      by_cases h2 : (t.length : Int) > 32
      · rw [show thB l.length t = false by unfold thB; rw [decide_eq_false (by omega), Bool.and_false], if_neg (show ¬ (false = true) by decide)]
        exact Ev.pos h2 f
      · refine Ev.neg h2 ?_
        have w2 : wrap64 ((l.length : Int) - 1) = (l.length : Int) - 1 := wid (by omega)
        have e : (t.all fun x => decide (0 ≤ x ∧ x ≤ (l.length : Int) - 1)) = thB l.length t := by
          unfold thB
          rw [decide_eq_true (show 1 ≤ t.length ∧ t.length ≤ 32 by omega), Bool.and_true, Bool.eq_iff_iff, all_iff_get, allF_iff]
          exact ⟨fun h j hj _ => h j hj, fun h j hj => h j hj (Nat.zero_le _)⟩
        unfold impl_composedOk.f
        rw [if_pos (show (t.length : Int) ≤ 64 by omega), w2, allIn_eq, e]
        simp only [Option.bind_some]
        cases thB l.length t with
        | false =>
          rw [if_neg (show ¬ (false = true) by decide)]
          exact f
        | true =>
          rw [if_pos (show true = true from rfl)]
          refine Ev.shift ?_
          simp only [impl_themeCode.j0, within_eq, Option.bind_some]
          refine Ev.neg (by decide) ?_
          by_cases h3 : 1 ≤ x ∧ x ≤ 32
          · rw [if_pos h3]
            exact Ev.pos (decide_eq_true h3) (Ev.now _)
          · rw [if_neg h3]
            exact Ev.neg (by rw [decide_eq_true_iff]; exact h3) (Ev.now _)
theorem sAsk (l : List S66) (t : List Int) (hl : l.length ≤ 8796093022208) (ht : t.length ≤ 35184372088832) : Ev (fun k => spec_l20Ask.f k l t) (thCode l t 1) := by
  unfold spec_l20Ask.f thCode
  have hs := sSyls l hl
  cases v : sylsB l with
  | false =>
    rw [v] at hs
    rw [if_neg (show ¬ (false = true) by decide)]
    exact Ev.bind hs (Ev.neg (by decide) (Ev.now _))
  | true =>
    rw [v] at hs
    rw [if_pos (show true = true from rfl), if_pos (show (1 : Int) ≤ 1 ∧ (1 : Int) ≤ 32 by omega)]
    refine Ev.bind hs (Ev.pos rfl ?_)
    have hst := sTheme l t hl ht
    cases h : thB l.length t with
    | false =>
      rw [h] at hst
      rw [if_neg (show ¬ (false = true) by decide)]
      exact Ev.bind hst (Ev.neg (by decide) (Ev.now _))
    | true =>
      rw [h] at hst
      rw [if_pos (show true = true from rfl)]
      exact Ev.bind hst (Ev.pos rfl (Ev.now _))
theorem thCode_zero {l : List S66} {t : List Int} (h : thCode l t 1 = 0) : 1 ≤ t.length ∧ t.length ≤ 32 := by
  unfold thCode at h
  split at h
  · split at h
    · rename_i h2
      unfold thB at h2
      rw [Bool.and_eq_true, decide_eq_true_iff] at h2
      exact h2.2
    · cases h
  · cases h
theorem and255 (x : Int) : 0 ≤ wrap64 (Go.bits .and .u64 x 255) ∧ wrap64 (Go.bits .and .u64 x 255) ≤ 255 := by
  have e : Go.bits .and .u64 x 255 = IntKind.u64.wrap ((BitVec.ofInt 64 x &&& BitVec.ofInt 64 255).toNat : Int) := rfl
  have h : (BitVec.ofInt 64 x &&& BitVec.ofInt 64 255).toNat ≤ 255 := by
    rw [BitVec.toNat_and]
    exact Nat.le_trans Nat.and_le_right (by decide)
  generalize (BitVec.ofInt 64 x &&& BitVec.ofInt 64 255).toNat = n at e h
  have e2 : IntKind.u64.wrap (n : Int) = n := by
    unfold IntKind.wrap
    simp [IntKind.bits, IntKind.signed]
    omega
  rw [e, e2, wid (by omega)]
  omega
def bytesB (l : List Int) : Prop := ∀ j, j < l.length → 0 ≤ l.getD j 0 ∧ l.getD j 0 ≤ 255
theorem next_ok (l : List Int) (hb : bytesB l) (a s : Int) (h0 : 0 ≤ a) (h1 : a ≤ 4000000000000000000) : ∃ v s', spec_l00Src_next.f l a s = some (v, a + 1, s') ∧ 0 ≤ v ∧ v ≤ 255 := by
  unfold spec_l00Src_next.f
  rw [wid (x := a + 1) (by omega)]
  by_cases c : a < (l.length : Int)
  · have q := hb a.toNat (by omega)
    have e : rd l a = l.getD a.toNat 0 := rfl
    rw [if_pos c, if_pos h0, if_pos (by omega), e, wid (x := l.getD a.toNat 0) (by omega)]
    exact ⟨_, _, rfl, q⟩
  · rw [if_neg c, if_neg (by omega)]
    exact ⟨_, _, rfl, and255 _⟩
theorem pick_ok (l : List Int) (hb : bytesB l) (a s n : Int) (h0 : 0 ≤ a) (h1 : a ≤ 3000000000000000000) (hn : n ≤ 1000000) : ∃ v a' s', spec_l00Src_pick.f l a s n = some (v, a', s') ∧ 0 ≤ v ∧ (v < n ∨ v = 0) ∧ a ≤ a' ∧ a' ≤ a + 2 := by
  unfold spec_l00Src_pick.f
  by_cases c : n ≤ 1
  · rw [if_pos c]; exact ⟨_, _, _, rfl, Int.le_refl _, .inr rfl, Int.le_refl _, by omega⟩
  rw [if_neg c]
  obtain ⟨v, s1, e1, v0, v1⟩ := next_ok l hb a s h0 (by omega)
  rw [e1]
  simp only [Option.bind_some]
  have tm : ∀ x : Int, 0 ≤ x → 0 ≤ Int.tmod x n ∧ Int.tmod x n < n := fun x hx => by
    rw [Int.tmod_eq_emod_of_nonneg hx]
    exact ⟨Int.emod_nonneg _ (by omega), Int.emod_lt_of_pos _ (by omega)⟩
  by_cases c2 : n > 200
  · rw [if_pos c2]
    obtain ⟨v', s2, e2, v0', v1'⟩ := next_ok l hb (a + 1) s1 (by omega) (by omega)
    rw [e2]
    simp only [Option.bind_some]
    rw [if_neg (by omega), wid (x := v * 256) (by omega), wid (x := v * 256 + v') (by omega)]
    have := tm (v * 256 + v') (by omega)
    exact ⟨_, _, _, rfl, this.1, .inl this.2, by omega, by omega⟩
  · rw [if_neg c2, if_neg (by omega)]
    have := tm v v0
    exact ⟨_, _, _, rfl, this.1, .inl this.2, by omega, by omega⟩
theorem among_ok (l : List Int) (hb : bytesB l) (a s : Int) (m : List Int) (h0 : 0 ≤ a) (h1 : a ≤ 3000000000000000000) (hm : 0 < m.length) (hm2 : m.length ≤ 1000000) : ∃ v a' s', spec_l00Src_among.f l a s m = some (v, a', s') ∧ v ∈ m ∧ a ≤ a' ∧ a' ≤ a + 2 := by
  unfold spec_l00Src_among.f
  obtain ⟨v, a', s', e, v0, v1, a0, a1⟩ := pick_ok l hb a s (m.length : Int) h0 h1 (by omega)
  rw [e]
  simp only [Option.bind_some]
  have hv : v < (m.length : Int) := by rcases v1 with h | h <;> omega
  rw [if_pos v0, if_pos hv]
  refine ⟨_, _, _, rfl, ?_, a0, a1⟩
  have : rd m v = m.getD v.toNat 0 := rfl
  rw [this, List.getD_eq_getElem?_getD, List.getElem?_eq_getElem (by omega)]
  exact List.getElem_mem _
theorem one_ok (l : List Int) (hb : bytesB l) (a s n : Int) (h0 : 0 ≤ a) (h1 : a ≤ 3000000000000000000) (hn : n ≤ 1000000) : ∃ v a' s', spec_l00Src_one.f l a s n = some (v, a', s') ∧ a ≤ a' ∧ a' ≤ a + 2 := by
  unfold spec_l00Src_one.f
  obtain ⟨v, a', s', e, v0, v1, a0, a1⟩ := pick_ok l hb a s n h0 h1 hn
  rw [e]
  exact ⟨_, _, _, rfl, a0, a1⟩
theorem chunks_count {n : Nat} {l : List Int} (hn : 1 ≤ n) : (chunks n l).length ≤ l.length := by
  unfold chunks
  rw [List.length_map, List.length_range, Nat.div_le_iff_le_mul_add_pred (by omega)]
  have : l.length ≤ n * l.length := Nat.le_mul_of_pos_left _ hn
  omega
theorem chunks_pos {n : Nat} {l : List Int} (hn : 1 ≤ n) (hl : 1 ≤ l.length) : 1 ≤ (chunks n l).length := by
  unfold chunks
  rw [List.length_map, List.length_range, Nat.le_div_iff_mul_le (by omega)]
  omega
theorem chunks_row {n : Nat} {l : List Int} {x : List Int} (hx : x ∈ chunks n l) : x.length ≤ l.length := by
  unfold chunks at hx
  obtain ⟨k, _, rfl⟩ := List.mem_map.1 hx
  unfold chunk
  rw [List.length_take, List.length_drop]; omega
theorem chunks_get {n : Nat} {l : List Int} (j : Nat) : ((chunks n l).getD j []).length ≤ l.length := by
  rw [List.getD_eq_getElem?_getD]
  by_cases h : j < (chunks n l).length
  · rw [List.getElem?_eq_getElem h]; exact chunks_row (List.getElem_mem h)
  · rw [List.getElem?_eq_none (by omega)]; exact Nat.zero_le _
theorem iBlocks (t : List Int) (a : Int) (ha : 1 ≤ a ∧ a ≤ 32) (ht : 1 ≤ t.length ∧ t.length ≤ 32) : impl_blocksOf.f t a = some (chunks a.toNat t) := by
  unfold impl_blocksOf.f
  rw [if_pos (by omega)]
theorem vEq_all (a b : List Int) (h : a.length = b.length) : allF (fun j => decide (a.getD j 0 = b.getD j 0)) a.length 0 = decide (a = b) := by
  by_cases e : a = b
  · subst e
    rw [decide_eq_true rfl, allF_iff]
    intro j _ _
    exact decide_eq_true rfl
  · rw [decide_eq_false e]
    cases hq : allF (fun j => decide (a.getD j 0 = b.getD j 0)) a.length 0 with
    | false => rfl
    | true =>
      rw [allF_iff] at hq
      refine absurd (List.ext_getElem h fun i h1 h2 => ?_) e
      have := of_decide_eq_true (hq i h1 (Nat.zero_le _))
      rwa [List.getD_eq_getElem?_getD, List.getD_eq_getElem?_getD, List.getElem?_eq_getElem h1, List.getElem?_eq_getElem h2, Option.getD_some, Option.getD_some] at this
theorem vEq_l0 (a b : List Int) (ha : a.length ≤ 32) (hab : a.length = b.length) (d : Nat) : ∀ (i : Nat), i + d = a.length → Ev (fun k => slices_Equal_int64_int64.l0 k a b (a.length : Int) i) (allF (fun j => decide (a.getD j 0 = b.getD j 0)) a.length i) := by
  induction d with
  | zero =>
    intro i h1
    refine Ev.shift ?_
    simp only [slices_Equal_int64_int64.l0]
    exact Ev.neg (by omega) (Ev.some (by rw [allF_end _ (by omega)]))
  | succ d ih =>
    intro i h1
    have w1 : wrap64 ((i : Int) + 1) = ((i + 1 : Nat) : Int) := by rw [wid (by omega)]; rfl
    refine Ev.shift ?_
    simp only [slices_Equal_int64_int64.l0, w1, rd_nat]
    refine Ev.pos (by omega) (Ev.pos (by omega) (Ev.pos (by omega) (Ev.pos (by omega) ?_)))
    by_cases h : a.getD i 0 = b.getD i 0
    · rw [allF_yes (fun j => decide (a.getD j 0 = b.getD j 0)) (decide_eq_true h)]
      exact Ev.pos h (ih (i + 1) (by omega))
    · rw [allF_no (fun j => decide (a.getD j 0 = b.getD j 0)) (by omega) (decide_eq_false h)]
      exact Ev.neg h (Ev.now _)
theorem vEqual (a b : List Int) (ha : a.length ≤ 32) : Ev (fun k => slices_Equal_int64_int64.f k a b) (decide (a = b)) := by
  unfold slices_Equal_int64_int64.f
  by_cases h : a.length = b.length
  · rw [← vEq_all a b h]
    exact Ev.pos (by omega) (vEq_l0 a b ha h a.length 0 (by omega))
  · rw [decide_eq_false (fun e => h (by rw [e]))]
    exact Ev.neg (by omega) (Ev.now _)
theorem ev_list {α : Type} {P : Nat → α → Prop} : ∀ (l : List α), (∀ x ∈ l, ∃ N, ∀ k, N ≤ k → P k x) → ∃ N, ∀ k, N ≤ k → ∀ x ∈ l, P k x
  | [], _ => ⟨0, fun _ _ x hx => by simp at hx⟩
  | a :: l, h => by
    obtain ⟨N1, h1⟩ := h a List.mem_cons_self
    obtain ⟨N2, h2⟩ := ev_list l (fun x hx => h x (List.mem_cons_of_mem _ hx))
    refine ⟨max N1 N2, fun k hk x hx => ?_⟩
    rcases List.mem_cons.1 hx with rfl | hx
    · exact h1 k (by omega)
    · exact h2 k (by omega) x hx
theorem vEqs (B : List (List Int)) (hB : ∀ x ∈ B, x.length ≤ 32) : ∃ N, ∀ k, N ≤ k → ch_eqs k B = true := by
  obtain ⟨N, h⟩ := ev_list (P := fun k x => (B.all fun y => decide (slices_Equal_int64_int64.f k x y = some (decide (x = y)))) = true) B (fun x hx => by
    obtain ⟨N, h⟩ := ev_list (P := fun k y => slices_Equal_int64_int64.f k x y = some (decide (x = y))) B (fun y _ => vEqual x y (hB x hx))
    exact ⟨N, fun k hk => List.all_eq_true.2 fun y hy => decide_eq_true (h k hk y hy)⟩)
  exact ⟨N, fun k hk => List.all_eq_true.2 fun x hx => h k hk x hx⟩
def uw (l : List S66) : Int → List Int → Int
  | a, [] => a
  | a, i :: is => uw l (wrap64 (a + (rd_T66 l i).f2)) is
def rowOk (n : Nat) (t : List Int) : Prop := t.length ≤ 32 ∧ ∀ j, j < t.length → 0 ≤ t.getD j 0 ∧ t.getD j 0 < (n : Int)
theorem uw_drop (l : List S66) (t : List Int) (a : Int) (i : Nat) (h : i < t.length) : uw l a (t.drop i) = uw l (wrap64 (a + (rd_T66 l (t.getD i 0)).f2)) (t.drop (i + 1)) := by
  rw [List.drop_eq_getElem_cons h, List.getD_eq_getElem?_getD, List.getElem?_eq_getElem h, Option.getD_some]
  rfl
theorem iUw_l0 (l : List S66) (t : List Int) (h : rowOk l.length t) (d : Nat) : ∀ (i : Nat) (a : Int), i + d = t.length → Ev (fun k => impl_unitsOfComposed.l0 k l a t (t.length : Int) i) (uw l a (t.drop i)) := by
  have h32 := h.1
  induction d with
  | zero =>
    intro i a h1
    refine Ev.shift ?_
    simp only [impl_unitsOfComposed.l0]
    exact Ev.neg (by omega) (Ev.some (by rw [List.drop_of_length_le (by omega)]; rfl))
  | succ d ih =>
    intro i a h1
    have w1 : wrap64 ((i : Int) + 1) = ((i + 1 : Nat) : Int) := by rw [wid (by omega)]; rfl
    have h2 := h.2 i (by omega)
    rw [uw_drop l t a i (by omega)]
    refine Ev.shift ?_
    simp only [impl_unitsOfComposed.l0, w1, rd_nat]
    exact Ev.pos (by omega) (Ev.pos (by omega) (Ev.pos (by omega) (Ev.pos h2.1 (Ev.pos h2.2 (ih (i + 1) _ (by omega))))))
theorem iUw (l : List S66) (t : List Int) (h : rowOk l.length t) : Ev (fun k => impl_unitsOfComposed.f k l t) (uw l 0 t) := iUw_l0 l t h t.length 0 0 (by omega)
theorem vUnits (l : List S66) : ∀ (B : List (List Int)), (∀ x ∈ B, rowOk l.length x) → Ev (fun k => ch_units k l B) (B.map (uw l 0))
  | [], _ => Ev.now _
  | b :: bs, h => by
    simp only [ch_units]
    exact Ev.bind (iUw l b (h b List.mem_cons_self)) (Ev.bind (vUnits l bs fun x hx => h x (List.mem_cons_of_mem _ hx)) (Ev.now _))
theorem getDL (l : List (List Int)) (k : Nat) (h : k < l.length) : l.getD k [] = l[k] := by
  rw [List.getD_eq_getElem?_getD, List.getElem?_eq_getElem h]; rfl
def vL (B : List (List Int)) (kk : Nat) (i m : Int) : Int := if B.getD i.toNat [] = B.getD kk [] then m else m - 1
def vSum (B : List (List Int)) (prev : List Int) (kk : Nat) (m : Int) : List Int → Int → Int
  | [], a => a
  | i :: is, a => vSum B prev kk m is (if 0 ≤ vL B kk i m then a + rd prev (vL B kk i m) else a)
def vRow (B O : List (List Int)) (M : Nat) (prev : List Int) (kk : Nat) : List Int := (List.range (M + 1)).map fun (m : Nat) => min (vSum B prev kk (m : Int) (O.getD kk []) 0) 20001
def vAt (B O : List (List Int)) (M : Nat) : Nat → List Int
  | 0 => List.replicate (M + 1) 1
  | d + 1 => vRow B O M (vAt B O M d) (B.length - 1 - d)
theorem vAt_len (B O : List (List Int)) (M : Nat) : ∀ d, (vAt B O M d).length = M + 1
  | 0 => List.length_replicate
  | d + 1 => by unfold vAt vRow; rw [List.length_map, List.length_range]
theorem vSum_low (B : List (List Int)) (prev : List Int) (kk : Nat) (m : Int) (hp : ∀ q, 0 ≤ rd prev q ∧ rd prev q ≤ 20001) : ∀ (L : List Int) (a : Int), a ≤ vSum B prev kk m L a ∧ vSum B prev kk m L a ≤ a + 20001 * (L.length : Int)
  | [], a => by simp [vSum]
  | i :: is, a => by
    unfold vSum
    have h1 := hp (vL B kk i m)
    have h2 := vSum_low B prev kk m hp is (if 0 ≤ vL B kk i m then a + rd prev (vL B kk i m) else a)
    rw [List.length_cons]
    revert h2
    split <;> intro h2 <;> omega
theorem vAt_bnd (B O : List (List Int)) (M : Nat) : ∀ d q, 0 ≤ rd (vAt B O M d) q ∧ rd (vAt B O M d) q ≤ 20001
  | 0, q => by
    unfold rd vAt
    rw [List.getD_eq_getElem?_getD, List.getElem?_replicate]
    split <;> simp
  | d + 1, q => by
    have hb := vAt_bnd B O M d
    unfold rd vAt vRow
    rw [List.getD_eq_getElem?_getD, List.getElem?_map]
    by_cases h : q.toNat < M + 1
    · rw [List.getElem?_range h]
      have := vSum_low B (vAt B O M d) (B.length - 1 - d) ((q.toNat : Nat) : Int) hb (O.getD (B.length - 1 - d) []) 0
      simp only [Option.map_some, Option.getD_some]
      omega
    · rw [List.getElem?_eq_none (by rw [List.length_range]; omega)]
      simp
theorem vAt_get (B O : List (List Int)) (M d m : Nat) (hm : m ≤ M) : rd (vAt B O M (d + 1)) (m : Int) = min (vSum B (vAt B O M d) (B.length - 1 - d) (m : Int) (O.getD (B.length - 1 - d) []) 0) 20001 := by
  rw [rd_nat]
  rw [show vAt B O M (d + 1) = vRow B O M (vAt B O M d) (B.length - 1 - d) from rfl]
  unfold vRow
  rw [List.getD_eq_getElem?_getD, List.getElem?_map, List.getElem?_range (by omega)]
  rfl
theorem vSum_drop (B : List (List Int)) (prev : List Int) (kk : Nat) (m : Int) (L : List Int) (a : Int) (i : Nat) (h : i < L.length) : vSum B prev kk m (L.drop i) a = vSum B prev kk m (L.drop (i + 1)) (if 0 ≤ vL B kk (L.getD i 0) m then a + rd prev (vL B kk (L.getD i 0) m) else a) := by
  rw [List.drop_eq_getElem_cons h, List.getD_eq_getElem?_getD, List.getElem?_eq_getElem h, Option.getD_some]
  rfl
structure vOk (B O : List (List Int)) : Prop where
  b : B.length ≤ 32
  r : ∀ j, (B.getD j []).length ≤ 32
  o : O.length = B.length
  l : ∀ j, (O.getD j []).length ≤ 32
  i : ∀ j q, q < (O.getD j []).length → 0 ≤ (O.getD j []).getD q 0 ∧ (O.getD j []).getD q 0 < (B.length : Int)
theorem iLeft {B O C : List (List Int)} (h : vOk B O) (kk : Nat) (i m : Int) (hk : kk < B.length) (hi : 0 ≤ i ∧ i < (B.length : Int)) (hm : 0 ≤ m ∧ m ≤ 32) : Ev (fun k => impl_choices_left.f k B O C kk i m) (vL B kk i m) := by
  unfold impl_choices_left.f vL
  simp only [rd_L4, Int.toNat_natCast]
  refine Ev.pos (by omega) (Ev.pos (by omega) (Ev.pos hi.1 (Ev.pos hi.2 (Ev.bind (vEqual _ _ (h.r kk)) ?_))))
  by_cases e : B.getD kk [] = B.getD i.toNat []
  · rw [if_pos e.symm]
    exact Ev.pos (decide_eq_true e) (Ev.now _)
  · rw [if_neg (Ne.symm e)]
    exact Ev.neg (by rw [decide_eq_true_iff]; exact e) (Ev.some (by rw [wid (by omega)]))
theorem v_step {a p : Int} {i : Nat} (h2 : 0 ≤ a ∧ a ≤ 20001 * (i : Int)) (h3 : 0 ≤ p ∧ p ≤ 20001) : 0 ≤ a + p ∧ a + p ≤ 20001 * ((i + 1 : Nat) : Int) := by omega
theorem v_step2 {a : Int} {i : Nat} (h2 : 0 ≤ a ∧ a ≤ 20001 * (i : Int)) : 0 ≤ a ∧ a ≤ 20001 * ((i + 1 : Nat) : Int) := by omega
theorem v_step3 {a p : Int} {i : Nat} (h2 : 0 ≤ a ∧ a ≤ 20001 * (i : Int)) (h3 : 0 ≤ p ∧ p ≤ 20001) (hi : i ≤ 32) : wrap64 (a + p) = a + p := wid (by omega)
theorem iCnt_l0 {B O C : List (List Int)} (h : vOk B O) (M kk : Nat) (m : Int) (prev : List Int) (hk : kk < B.length) (hM : M ≤ 32) (hm : 0 ≤ m ∧ m ≤ (M : Int)) (hC : C.length = B.length + 1) (hpv : C.getD (kk + 1) [] = prev) (hpl : prev.length = M + 1) (hp : ∀ q, 0 ≤ rd prev q ∧ rd prev q ≤ 20001) (d : Nat) : ∀ (i : Nat) (a : Int), i + d = (O.getD kk []).length → 0 ≤ a ∧ a ≤ 20001 * (i : Int) →
    Ev (fun k => impl_choices_count.l0 k kk m a (O.getD kk []) ((O.getD kk []).length : Int) i B O C) (min (vSum B prev kk m ((O.getD kk []).drop i) a) 20001) := by
  have h32 := h.l kk
  have hbb := h.b
  induction d with
  | zero =>
    intro i a h1 h2
    clear h2
    refine Ev.shift ?_
    simp only [impl_choices_count.l0]
    rw [List.drop_of_length_le (by omega)]
    exact Ev.neg (by omega) (Ev.some (by rw [mn_eq]; rfl))
  | succ d ih =>
    intro i a h1 h2
    have w1 : wrap64 ((i : Int) + 1) = ((i + 1 : Nat) : Int) := by rw [wid (by omega)]; rfl
    have w2 : wrap64 ((kk : Int) + 1) = ((kk + 1 : Nat) : Int) := by rw [wid (by omega)]; rfl
    have hi := h.i kk i (by omega)
    have hl := iLeft (C := C) h kk ((O.getD kk []).getD i 0) m hk hi (by omega)
    rw [vSum_drop B prev kk m (O.getD kk []) a i (by omega)]
    have hv : vL B kk ((O.getD kk []).getD i 0) m ≤ m := by unfold vL; split <;> omega
    generalize vL B kk ((O.getD kk []).getD i 0) m = v at hl hv ⊢
    have h3 := hp v
    have hs : Aside0 (0 ≤ a + rd prev v ∧ a + rd prev v ≤ 20001 * ((i + 1 : Nat) : Int)) := ⟨v_step h2 h3⟩
    have hs2 : Aside0 (0 ≤ a ∧ a ≤ 20001 * ((i + 1 : Nat) : Int)) := ⟨v_step2 h2⟩
    have hw : Aside0 (wrap64 (a + rd prev v) = a + rd prev v) := ⟨v_step3 h2 h3 (show i ≤ 32 by clear h2 h3; omega)⟩
    clear h2 h3
    refine Ev.shift ?_
    simp only [impl_choices_count.l0, w1, w2, rd_nat, rd_L4, Int.toNat_natCast, hpv]
    clear w1 w2
    refine Ev.pos (by omega) ?_
    refine Ev.pos (Int.natCast_nonneg _) ?_
    refine Ev.pos (by omega) ?_
    refine Ev.bind hl ?_
    by_cases c : 0 ≤ v
    · rw [if_pos c]
      rw [hw.out]
      refine Ev.pos c ?_
      refine Ev.pos (Int.natCast_nonneg _) ?_
      refine Ev.pos (by omega) ?_
      refine Ev.pos c ?_
      refine Ev.pos (by omega) ?_
      exact ih (i + 1) _ (by omega) hs.out
    · rw [if_neg c]
      exact Ev.neg c (ih (i + 1) _ (by omega) hs2.out)
theorem iCnt {B O C : List (List Int)} (h : vOk B O) (M kk m : Nat) (hk : kk ≤ B.length) (hM : M ≤ 32) (hm : m ≤ M) (hC : C.length = B.length + 1) (hpv : kk < B.length → C.getD (kk + 1) [] = vAt B O M (B.length - (kk + 1))) :
    Ev (fun k => impl_choices_count.f k B O C kk m) (rd (vAt B O M (B.length - kk)) m) := by
  unfold impl_choices_count.f
  by_cases e : kk = B.length
  · subst e
    refine Ev.pos rfl (Ev.some ?_)
    rw [Nat.sub_self, rd_nat]
    unfold vAt
    rw [List.getD_eq_getElem?_getD, List.getElem?_replicate, if_pos (by omega)]
    rfl
  · obtain ⟨d, hd⟩ : ∃ d, B.length - kk = d + 1 := ⟨B.length - kk - 1, by omega⟩
    have e1 : B.length - 1 - d = kk := by omega
    have e2 : B.length - (kk + 1) = d := by omega
    have ho := h.o
    rw [hd, vAt_get B O M d m hm, e1]
    have hpv' := hpv (by omega)
    rw [e2] at hpv'
    have := iCnt_l0 (C := C) h M kk (m : Int) (vAt B O M d) (by omega) hM (by omega) hC hpv' (vAt_len B O M d) (vAt_bnd B O M d) _ 0 0 (Nat.zero_add _) (by omega)
    rw [List.drop_zero] at this
    simp only [rd_L4, Int.toNat_natCast]
    exact Ev.neg (by omega) (Ev.pos (by omega) (Ev.pos (by omega) this))
theorem set_get (C : List (List Int)) (s : Nat) (x : List Int) (h : s < C.length) : (C.set s x).getD s [] = x := by
  rw [List.getD_eq_getElem?_getD, List.getElem?_set_self h]; rfl
theorem set_other (C : List (List Int)) (s j : Nat) (x : List Int) (h : s ≠ j) : (C.set s x).getD j [] = C.getD j [] := by
  rw [List.getD_eq_getElem?_getD, List.getElem?_set_ne h, ← List.getD_eq_getElem?_getD]
theorem iIn {B O : List (List Int)} (h : vOk B O) (M kk : Nat) (hk : kk ≤ B.length) (hM : M ≤ 32) : ∀ (d m : Nat) (C : List (List Int)), m + d = M + 1 → C.length = B.length + 1 → (kk < B.length → C.getD (kk + 1) [] = vAt B O M (B.length - (kk + 1))) → C.getD kk [] = (vAt B O M (B.length - kk)).take m ++ List.replicate d 0 →
    Ev (fun k => ch_in k B O kk d m C) (C.set kk (vAt B O M (B.length - kk)))
  | 0, m, C, h1, h2, h3, h4 => by
    refine Ev.some ?_
    rw [List.replicate_zero, List.append_nil, List.take_of_length_le (by rw [vAt_len]; omega)] at h4
    rw [← h4]
    congr 1
    apply List.ext_getElem?
    intro j
    by_cases e : kk = j
    · subst e
      rw [List.getElem?_set_self (by omega), getDL C kk (by omega), List.getElem?_eq_getElem (by omega)]
    · rw [List.getElem?_set_ne e]
  | d + 1, m, C, h1, h2, h3, h4 => by
    simp only [ch_in]
    refine Ev.bind (iCnt (C := C) h M kk m hk hM (by omega) h2 h3) ?_
    have := iIn h M kk hk hM d (m + 1) (C.set kk ((C.getD kk []).set m (rd (vAt B O M (B.length - kk)) m))) (by omega) (by rw [List.length_set]; exact h2) (fun hlt => by rw [set_other _ _ _ _ (by omega)]; exact h3 hlt) (by
      rw [set_get _ _ _ (by omega), h4]
      have hl := vAt_len B O M (B.length - kk)
      rw [rd_get _ _ (by omega), List.set_append_right _ _ (by rw [List.length_take]; omega), List.length_take, Nat.min_eq_left (by omega), Nat.sub_self, List.replicate_succ, List.set_cons_zero, List.take_add_one, List.getElem?_eq_getElem (by omega), List.append_assoc]
      rfl)
    rw [List.set_set] at this
    exact this
theorem iOut {B O : List (List Int)} (h : vOk B O) (M : Nat) (hM : M ≤ 32) : ∀ (s : Nat) (C : List (List Int)), s ≤ B.length + 1 → C.length = B.length + 1 → (∀ j, s ≤ j → j ≤ B.length → C.getD j [] = vAt B O M (B.length - j)) →
    Ev (fun k => ch_out k B O M s C) ((List.range (B.length + 1)).map fun j => vAt B O M (B.length - j))
  | 0, C, h1, h2, h3 => by
    refine Ev.some ?_
    congr 1
    apply List.ext_getElem (by rw [List.length_map, List.length_range, h2])
    intro j h4 h5
    rw [List.getElem_map, List.getElem_range, ← h3 j (Nat.zero_le _) (by omega), getDL C j h4]
  | s + 1, C, h1, h2, h3 => by
    simp only [ch_out]
    have := iIn h M s (by omega) hM (M + 1) 0 (C.set s (List.replicate (M + 1) 0)) (by omega) (by rw [List.length_set]; exact h2) (fun hlt => by rw [set_other _ _ _ _ (by omega)]; exact h3 (s + 1) (by omega) (by omega)) (by rw [set_get _ _ _ (by omega), List.take_zero, List.nil_append])
    rw [List.set_set] at this
    refine Ev.bind this (iOut h M hM s _ (by omega) (by rw [List.length_set]; exact h2) (fun j h5 h6 => ?_))
    by_cases e : s = j
    · subst e; rw [set_get _ _ _ (by omega)]
    · rw [set_other _ _ _ _ e]; exact h3 j (by omega) h6
def vC (B O : List (List Int)) (M : Nat) : List (List Int) := (List.range (B.length + 1)).map fun j => vAt B O M (B.length - j)
theorem vC_get (B O : List (List Int)) (M j : Nat) (hj : j ≤ B.length) : (vC B O M).getD j [] = vAt B O M (B.length - j) := by
  unfold vC
  rw [List.getD_eq_getElem?_getD, List.getElem?_map, List.getElem?_range (by omega)]
  rfl
theorem vC_len (B O : List (List Int)) (M : Nat) : (vC B O M).length = B.length + 1 := by unfold vC; rw [List.length_map, List.length_range]
def vO (l : List S66) (B : List (List Int)) : List (List Int) := ch_opts B (B.map (uw l 0)) B.length
theorem vO_get (l : List S66) (B : List (List Int)) (j : Nat) (hj : j < B.length) : (vO l B).getD j [] = ch_opt B (B.map (uw l 0)) j B.length := by
  unfold vO ch_opts
  rw [List.getD_eq_getElem?_getD, List.getElem?_map, List.getElem?_range hj]
  rfl
theorem vOk_of (l : List S66) (B : List (List Int)) (hB : B.length ≤ 32) (hr : ∀ x ∈ B, x.length ≤ 32) : vOk B (vO l B) := by
  have hO : (vO l B).length = B.length := ch_opts_len _ _ _
  have hz : ∀ j, ¬ j < B.length → (vO l B).getD j [] = [] := fun j h => by rw [List.getD_eq_getElem?_getD, List.getElem?_eq_none (by omega)]; rfl
  refine ⟨hB, fun j => ?_, hO, fun j => ?_, fun j q hq => ?_⟩
  · by_cases h : j < B.length
    · rw [getDL B j h]; exact hr _ (List.getElem_mem h)
    · rw [List.getD_eq_getElem?_getD, List.getElem?_eq_none (by omega)]; exact Nat.zero_le _
  · by_cases h : j < B.length
    · rw [vO_get l B j h]; exact Nat.le_trans (ch_opt_len _ _ _ _) hB
    · rw [hz j h]; exact Nat.zero_le _
  · by_cases h : j < B.length
    · rw [vO_get l B j h] at hq ⊢
      rw [List.getD_eq_getElem?_getD, List.getElem?_eq_getElem hq, Option.getD_some]
      have hm := List.getElem_mem hq
      generalize (ch_opt B (B.map (uw l 0)) j B.length)[q] = x at hm
      unfold ch_opt at hm
      obtain ⟨y, hy, rfl⟩ := List.mem_map.1 hm
      have := List.mem_range.1 (List.mem_filter.1 hy).1
      omega
    · rw [hz j h] at hq
      simp at hq
theorem chunk_getD (n i j : Nat) (t : List Int) : j < (chunk n t i).length → i + j < t.length ∧ (chunk n t i).getD j 0 = t.getD (i + j) 0 := by
  unfold chunk
  intro h
  rw [List.length_take, List.length_drop] at h
  refine ⟨by omega, ?_⟩
  rw [List.getD_eq_getElem?_getD, List.getD_eq_getElem?_getD, List.getElem?_take_of_lt (by omega), List.getElem?_drop]
theorem rows_ok (l : List S66) (t : List Int) (a : Int) (h : thCode l t a = 0) : ∀ x ∈ chunks a.toNat t, rowOk l.length x := by
  obtain ⟨⟨h1, h2⟩, h3, h4⟩ := thCode_len h
  intro x hx
  refine ⟨Nat.le_trans (chunks_row hx) h2, fun j hj => ?_⟩
  unfold chunks at hx
  obtain ⟨q, _, rfl⟩ := List.mem_map.1 hx
  obtain ⟨e1, e2⟩ := chunk_getD _ _ _ _ hj
  rw [e2]
  unfold thCode at h
  split at h
  · split at h
    · rename_i h5
      unfold thB at h5
      rw [Bool.and_eq_true, allF_iff] at h5
      have := h5.1 _ e1 (Nat.zero_le _)
      unfold thQ at this
      have := of_decide_eq_true this
      omega
    · cases h
  · cases h
def chR (l : List S66) (t : List Int) (a m : Int) : List (List Int) × List (List Int) × List (List Int) × Int :=
  if thCode l t a = 0 then (if 0 ≤ m ∧ m ≤ 32 then (chunks a.toNat t, vO l (chunks a.toNat t), vC (chunks a.toNat t) (vO l (chunks a.toNat t)) m.toNat, 0) else ([], [], [], 2)) else ([], [], [], thCode l t a)
theorem iChoices (l : List S66) (t : List Int) (a m : Int) (hl : l.length ≤ 8796093022208) : Ev (fun k => impl_choicesOf.f k l t a m) (chR l t a m) := by
  unfold impl_choicesOf.f chR
  refine Ev.bind (iTheme l t a hl) ?_
  by_cases h : thCode l t a = 0
  · obtain ⟨h1, h2⟩ := thCode_len h
    have hc := @chunks_count a.toNat t (by omega)
    have hrow := rows_ok l t a h
    rw [if_pos h]
    refine Ev.pos h ?_
    by_cases hm : 0 ≤ m ∧ m ≤ 32
    · rw [if_pos hm, iBlocks t a h2 h1]
      refine Ev.pos hm ?_
      simp only [Option.bind_some]
      generalize chunks a.toNat t = B at hc hrow ⊢
      have hr : ∀ x ∈ B, x.length ≤ 32 := fun x hx => (hrow x hx).1
      have hok := vOk_of l B (by omega) hr
      obtain ⟨N, hN⟩ := vEqs B hr
      have hrest : Ev (fun k => (ch_units k l B).bind fun us => (ch_out k B (ch_opts B us B.length) m.toNat (B.length + 1) (List.replicate (B.length + 1) [])).bind fun C => some (B, ch_opts B us B.length, C, (0 : Int))) (B, vO l B, vC B (vO l B) m.toNat, 0) :=
        Ev.bind (vUnits l B hrow) (Ev.bind (iOut hok m.toNat (by omega) (B.length + 1) _ (Nat.le_refl _) List.length_replicate (fun j h5 h6 => by omega)) (Ev.now _))
      obtain ⟨N2, hN2⟩ := hrest
      refine ⟨max N N2, fun k hk => ?_⟩
      show (if B.length ≤ 1000 ∧ ch_eqs k B = true then _ else _) = _
      rw [if_pos ⟨by omega, hN k (by omega)⟩]
      exact hN2 k (by omega)
    · rw [if_neg hm]
      exact Ev.neg hm (Ev.now _)
  · rw [if_neg h]
    exact Ev.neg h (Ev.now _)
def cvR (l : List S66) (t : List Int) (a m : Int) : Int × Int :=
  if thCode l t a = 0 then (if 0 ≤ m ∧ m ≤ 32 then (if 20000 < rd (vAt (chunks a.toNat t) (vO l (chunks a.toNat t)) m.toNat (chunks a.toNat t).length) m then (0, 5) else (rd (vAt (chunks a.toNat t) (vO l (chunks a.toNat t)) m.toNat (chunks a.toNat t).length) m, 0)) else (0, 2)) else (0, thCode l t a)
theorem cvI (l : List S66) (t : List Int) (a m : Int) (hl : l.length ≤ 8796093022208) : Ev (fun k => impl_CountVariations.f k l t a m) (cvR l t a m) := by
  unfold impl_CountVariations.f cvR
  refine Ev.bind (iChoices l t a m hl) ?_
  unfold chR
  by_cases h : thCode l t a = 0
  · rw [if_pos h, if_pos h]
    by_cases hm : 0 ≤ m ∧ m ≤ 32
    · rw [if_pos hm, if_pos hm]
      generalize chunks a.toNat t = B
      have hg := vC_get B (vO l B) m.toNat 0 (Nat.zero_le _)
      have hl1 := vC_len B (vO l B) m.toNat
      have hl2 := vAt_len B (vO l B) m.toNat B.length
      rw [Nat.sub_zero] at hg
      simp only [hg]
      generalize vAt B (vO l B) m.toNat B.length = R at hl2 ⊢
      refine Ev.pos trivial (Ev.pos (by omega) ?_)
      by_cases c : 20000 < rd R m
      · refine Ev.pos c ?_
        rw [if_pos c]; exact Ev.now _
      · refine Ev.neg c ?_
        rw [if_neg c]; exact Ev.now _
    · rw [if_neg hm, if_neg hm]
      exact Ev.neg (by simp) (Ev.now _)
  · rw [if_neg h]
    refine Ev.neg h ?_
    rw [if_neg h]
    exact Ev.now _
def nI (B : List (List Int)) (prev : List Int) (kk : Nat) : List Int → List Int → Int → Int → List Int × Int × Int
  | [], o, m, n => (o, m, n)
  | i :: is, o, m, n => if vL B kk i m < 0 then nI B prev kk is o m n else if n < rd prev (vL B kk i m) then (o ++ B.getD i.toNat [], vL B kk i m, n) else nI B prev kk is o m (wrap64 (n - rd prev (vL B kk i m)))
def nO (B O : List (List Int)) (M : Nat) : Nat → List Int → Int → Int → List Int
  | 0, o, _, _ => o
  | d + 1, o, m, n => nO B O M d (nI B (vAt B O M d) (B.length - 1 - d) (O.getD (B.length - 1 - d) []) o m n).1 (nI B (vAt B O M d) (B.length - 1 - d) (O.getD (B.length - 1 - d) []) o m n).2.1 (nI B (vAt B O M d) (B.length - 1 - d) (O.getD (B.length - 1 - d) []) o m n).2.2
theorem nI_bnd (B : List (List Int)) (prev : List Int) (kk : Nat) (hr : ∀ j, (B.getD j []).length ≤ 32) : ∀ (L o : List Int) (m n : Int), 0 ≤ m → (0 ≤ (nI B prev kk L o m n).2.1 ∧ (nI B prev kk L o m n).2.1 ≤ m) ∧ (nI B prev kk L o m n).1.length ≤ o.length + 32
  | [], o, m, n, h => by simp only [nI]; omega
  | i :: is, o, m, n, h => by
    have hv : vL B kk i m ≤ m := by unfold vL; split <;> omega
    simp only [nI]
    split
    · exact nI_bnd B prev kk hr is o m n h
    · split
      · have := hr i.toNat
        simp only [List.length_append]
        omega
      · exact nI_bnd B prev kk hr is o m _ h
theorem iNvIn {B O C : List (List Int)} (h : vOk B O) (M kk : Nat) (prev : List Int) (hk : kk < B.length) (hM : M ≤ 32) (hC : kk + 1 < C.length) (hpv : C.getD (kk + 1) [] = prev) (hpl : prev.length = M + 1) : ∀ (L o : List Int) (m n : Int), (∀ x ∈ L, 0 ≤ x ∧ x < (B.length : Int)) → 0 ≤ m ∧ m ≤ (M : Int) → o.length ≤ 2000 →
    Ev (fun k => nvIn k B O C kk L o m n) (nI B prev kk L o m n)
  | [], o, m, n, _, _, _ => Ev.now _
  | i :: is, o, m, n, hL, hm, ho => by
    have hi := hL i List.mem_cons_self
    have hv : vL B kk i m ≤ m := by unfold vL; split <;> omega
    have hb := h.r i.toNat
    have ih := iNvIn (C := C) h M kk prev hk hM hC hpv hpl is
    simp only [nvIn, nI]
    refine Ev.bind (iLeft (C := C) h kk i m hk hi (by omega)) ?_
    generalize vL B kk i m = v at hv ⊢
    by_cases c : v < 0
    · refine Ev.pos c ?_
      rw [if_pos c]
      exact ih o m n (fun x hx => hL x (List.mem_cons_of_mem _ hx)) hm ho
    · refine Ev.neg c ?_
      rw [if_neg c, hpv]
      refine Ev.pos ⟨hC, by omega, hi.1, hi.2, by omega⟩ ?_
      by_cases c2 : n < rd prev v
      · refine Ev.pos c2 ?_
        rw [if_pos c2]
        exact Ev.now _
      · refine Ev.neg c2 ?_
        rw [if_neg c2]
        exact ih o m _ (fun x hx => hL x (List.mem_cons_of_mem _ hx)) hm ho
theorem row_mem {B O : List (List Int)} (h : vOk B O) (j : Nat) : ∀ x ∈ O.getD j [], 0 ≤ x ∧ x < (B.length : Int) := by
  intro x hx
  obtain ⟨q, hq, rfl⟩ := List.getElem_of_mem hx
  have := h.i j q hq
  rwa [List.getD_eq_getElem?_getD, List.getElem?_eq_getElem hq, Option.getD_some] at this
theorem iNvOut {B O C : List (List Int)} (h : vOk B O) (M : Nat) (hM : M ≤ 32) (hC : C.length = B.length + 1) (hg : ∀ j, j ≤ B.length → C.getD j [] = vAt B O M (B.length - j)) : ∀ (d : Nat) (o : List Int) (m n : Int), d ≤ B.length → 0 ≤ m ∧ m ≤ (M : Int) → o.length ≤ 32 * (B.length - d) →
    Ev (fun k => nvOut k B O C d (B.length - d) o m n) (nO B O M d o m n)
  | 0, o, m, n, _, _, _ => Ev.now _
  | d + 1, o, m, n, hd, hm, ho => by
    have hb := h.b
    have hO := h.o
    have e1 : B.length - (d + 1) = B.length - 1 - d := by omega
    have e2 : B.length - 1 - d + 1 = B.length - d := by omega
    have hin := iNvIn (C := C) h M (B.length - 1 - d) (vAt B O M d) (by omega) hM (by omega) (by rw [e2, hg _ (by omega), show B.length - (B.length - d) = d by omega]) (vAt_len _ _ _ _) (O.getD (B.length - 1 - d) []) o m n (row_mem h _) hm (by omega)
    have hn := nI_bnd B (vAt B O M d) (B.length - 1 - d) h.r (O.getD (B.length - 1 - d) []) o m n hm.1
    simp only [nvOut, nO]
    rw [e1]
    refine Ev.pos (by omega) (Ev.bind hin ?_)
    generalize nI B (vAt B O M d) (B.length - 1 - d) (O.getD (B.length - 1 - d) []) o m n = s at hn ⊢
    rw [e2]
    exact iNvOut h M hM hC hg d s.1 s.2.1 s.2.2 (by omega) (by omega) (by omega)
def nvR (l : List S66) (t : List Int) (a m n : Int) : List Int × Int :=
  if thCode l t a = 0 then (if 0 ≤ m ∧ m ≤ 32 then (if 20000 < rd (vAt (chunks a.toNat t) (vO l (chunks a.toNat t)) m.toNat (chunks a.toNat t).length) m then ([], 5) else (if 0 ≤ n ∧ n ≤ wrap64 (rd (vAt (chunks a.toNat t) (vO l (chunks a.toNat t)) m.toNat (chunks a.toNat t).length) m - 1) then (nO (chunks a.toNat t) (vO l (chunks a.toNat t)) m.toNat (chunks a.toNat t).length [] m n, 0) else ([], 3))) else ([], 2)) else ([], thCode l t a)
theorem nvI (l : List S66) (t : List Int) (a m n : Int) (hl : l.length ≤ 8796093022208) : Ev (fun k => impl_NumberedVariation.f k l t a m n) (nvR l t a m n) := by
  unfold impl_NumberedVariation.f nvR
  refine Ev.bind (iChoices l t a m hl) ?_
  unfold chR
  by_cases h : thCode l t a = 0
  · obtain ⟨h1, h2⟩ := thCode_len h
    have hrow := rows_ok l t a h
    have hc := @chunks_count a.toNat t (by omega)
    rw [if_pos h, if_pos h]
    by_cases hm : 0 ≤ m ∧ m ≤ 32
    · rw [if_pos hm, if_pos hm]
      generalize chunks a.toNat t = B at hrow hc ⊢
      have hok := vOk_of l B (by omega) (fun x hx => (hrow x hx).1)
      have hg := vC_get B (vO l B) m.toNat 0 (Nat.zero_le _)
      have hl1 := vC_len B (vO l B) m.toNat
      have hl2 := vAt_len B (vO l B) m.toNat B.length
      have hO := iNvOut (C := vC B (vO l B) m.toNat) hok m.toNat (by omega) hl1 (fun j hj => vC_get B (vO l B) m.toNat j hj) B.length [] m n (Nat.le_refl _) (by omega) (by simp)
      rw [Nat.sub_self] at hO
      rw [Nat.sub_zero] at hg
      simp only [hg]
      generalize vAt B (vO l B) m.toNat B.length = R at hl2 ⊢
      refine Ev.pos trivial (Ev.pos ⟨hm.1, by omega, by omega, by omega⟩ ?_)
      by_cases c : 20000 < rd R m
      · refine Ev.pos c ?_
        rw [if_pos c]; exact Ev.now _
      · refine Ev.neg c ?_
        rw [if_neg c]
        by_cases c2 : 0 ≤ n ∧ n ≤ wrap64 (rd R m - 1)
        · refine Ev.pos c2 (Ev.bind hO ?_)
          rw [if_pos c2]
          exact Ev.now _
        · refine Ev.neg c2 ?_
          rw [if_neg c2]
          exact Ev.now _
    · rw [if_neg hm, if_neg hm]
      exact Ev.neg (by simp) (Ev.now _)
  · rw [if_neg h]
    refine Ev.neg h ?_
    rw [if_neg h]
    exact Ev.now _
theorem nO_len {B O : List (List Int)} (h : vOk B O) (M : Nat) : ∀ (d : Nat) (o : List Int) (m n : Int), d ≤ B.length → 0 ≤ m → (nO B O M d o m n).length ≤ o.length + 32 * d
  | 0, o, m, n, _, _ => by simp [nO]
  | d + 1, o, m, n, hd, hm => by
    have hn := nI_bnd B (vAt B O M d) (B.length - 1 - d) h.r (O.getD (B.length - 1 - d) []) o m n hm
    simp only [nO]
    generalize nI B (vAt B O M d) (B.length - 1 - d) (O.getD (B.length - 1 - d) []) o m n = s at hn ⊢
    have := nO_len h M d s.1 s.2.1 s.2.2 (by omega) hn.1.1
    omega
theorem nvR_len (l : List S66) (t : List Int) (a m n : Int) : (nvR l t a m n).1.length ≤ 1024 := by
  unfold nvR
  split
  · rename_i h
    obtain ⟨h1, h2⟩ := thCode_len h
    have hrow := rows_ok l t a h
    have hc := @chunks_count a.toNat t (by omega)
    generalize chunks a.toNat t = B at hrow hc ⊢
    have hok := vOk_of l B (by omega) (fun x hx => (hrow x hx).1)
    split
    · rename_i hm
      split
      · simp
      · split
        · have := nO_len hok m.toNat B.length [] m n (Nat.le_refl _) hm.1
          simp only [List.length_nil] at this
          show (nO B (vO l B) m.toNat B.length [] m n).length ≤ 1024
          omega
        · simp
    · simp
  · simp
theorem text_ok (l : List Int) (hb : bytesB l) (a s : Int) (m : List ByteArray) (h0 : 0 ≤ a) (h1 : a ≤ 3000000000000000000) (hm : 0 < m.length) (hm2 : m.length ≤ 1000000) : ∃ v a' s', spec_l00Src_text.f l a s m = some (v, a', s') ∧ a ≤ a' ∧ a' ≤ a + 2 := by
  unfold spec_l00Src_text.f
  obtain ⟨v, a', s', e, v0, v1, a0, a1⟩ := pick_ok l hb a s (m.length : Int) h0 h1 (by omega)
  rw [e]
  simp only [Option.bind_some]
  have hv : v < (m.length : Int) := by rcases v1 with h | h <;> omega
  rw [if_pos v0, if_pos hv]
  exact ⟨_, _, _, rfl, a0, a1⟩
theorem drawOk18_l0 (l : List Int) (hb : bytesB l) (N : List ByteArray) (H : List Int) (hN : N.length = 7) (hH : H.length = 7) (d : Nat) : ∀ (i : Nat) (x : List S66) (a s : Int), i + d = 7 → x.length ≤ i → 0 ≤ a → a ≤ 100000 - 4 * (d : Int) → ∃ (r : List S66) (a' s' : Int), r.length ≤ 7 ∧ 0 ≤ a' ∧ a' ≤ 100000 ∧ Ev (fun k => spec_l18DrawOk.l0 k N H x (i : Int) l a s) (r, a', s') := by
  induction d with
  | zero =>
    intro i x a s h1 h2 h3 h4
    refine ⟨x, a, s, by omega, h3, by omega, Ev.shift ?_⟩
    simp only [spec_l18DrawOk.l0]
    exact Ev.neg (by omega) (Ev.now _)
  | succ d ih =>
    intro i x a s h1 h2 h3 h4
    have w1 : wrap64 ((i : Int) + 1) = ((i + 1 : Nat) : Int) := by rw [wid (by omega)]; rfl
    obtain ⟨v, a1, s1, e1, b1, b2⟩ := one_ok l hb a s 3 h3 (by omega) (by omega)
    cases v with
    | true =>
      obtain ⟨r, a', s', q1, q2, q3, q4⟩ := ih (i + 1) x a1 s1 (by omega) (by omega) (by omega) (by omega)
      refine ⟨r, a', s', q1, q2, q3, Ev.shift ?_⟩
      simp only [spec_l18DrawOk.l0, e1, Option.bind_some, w1]
      exact Ev.pos (by omega) (Ev.pos trivial q4)
    | false =>
      obtain ⟨v2, a2, s2, e2, _, b3, b4⟩ := among_ok l hb a1 s1 [1, 1, 2, 3] (by omega) (by omega) (by simp) (by simp)
      obtain ⟨r, a', s', q1, q2, q3, q4⟩ := ih (i + 1) (x ++ [(⟨rdOf ByteArray.empty N (i : Int), rd H (i : Int), v2⟩ : S66)]) a2 s2 (by omega) (by simp; omega) (by omega) (by omega)
      refine ⟨r, a', s', q1, q2, q3, Ev.shift ?_⟩
      simp only [spec_l18DrawOk.l0, e1, e2, Option.bind_some, w1]
      exact Ev.pos (by omega) (Ev.neg (by simp) (Ev.pos (by omega) (Ev.pos (by omega) (Ev.pos (by omega) q4))))
theorem strOne (x : Int) : (strOfNums [x]).size = 1 := by simp [strOfNums, ByteArray.size]
theorem draw18_l0 (l : List Int) (a s : Int) (n d : Nat) (hn : n ≤ 17) : ∀ (i : Nat) (x : List S66), i + d = n → x.length = i → ∃ r : List S66, r.length ≤ 17 ∧ Ev (fun k => spec_l18Draw.l0 k x (n : Int) (i : Int) l a s) (r, a, s) := by
  induction d with
  | zero =>
    intro i x h1 h2
    refine ⟨x, by omega, Ev.shift ?_⟩
    simp only [spec_l18Draw.l0]
    exact Ev.neg (by omega) (Ev.now _)
  | succ d ih =>
    intro i x h1 h2
    have w1 : wrap64 ((i : Int) + 1) = ((i + 1 : Nat) : Int) := by rw [wid (by omega)]; rfl
    obtain ⟨r, q1, q2⟩ := ih (i + 1) (x ++ [(⟨(⟨#[110]⟩ : ByteArray) ++ (strOfNums [(wrap64 (97 + (i : Int))) % 256]), wrap64 (1 + (Int.tmod (i : Int) 3)), 1⟩ : S66)]) (by omega) (by simp; omega)
    refine ⟨r, q1, Ev.shift ?_⟩
    simp only [spec_l18Draw.l0, Option.bind_some, strOne, w1]
    exact Ev.pos (by omega) (Ev.pos (by omega) (Ev.pos (by omega) q2))
theorem draw18 (l : List Int) (hb : bytesB l) (a s : Int) (h0 : 0 ≤ a) (h1 : a ≤ 1000) : ∃ (r : List S66) (a' s' : Int), r.length ≤ 20 ∧ 0 ≤ a' ∧ a' ≤ 200000 ∧ Ev (fun k => spec_l18Draw.f k l a s) (r, a', s') := by
  unfold spec_l18Draw.f spec_l18DrawOk.f
  obtain ⟨r, a1, s1, r1, b1, b2, ev⟩ := drawOk18_l0 l hb [(⟨#[100, 104, 97]⟩ : ByteArray), (⟨#[100, 104, 105, 110]⟩ : ByteArray), (⟨#[103, 101]⟩ : ByteArray), (⟨#[107, 101]⟩ : ByteArray), (⟨#[110, 97]⟩ : ByteArray), (⟨#[116, 97]⟩ : ByteArray), (⟨#[116, 105, 110]⟩ : ByteArray)] [3, 3, 1, 1, 2, 2, 2] rfl rfl 7 0 [] a s (by omega) (by simp) h0 (by omega)
  obtain ⟨v4, a4, s4, e4, _, _, b7, b8⟩ := pick_ok l hb a1 s1 20 (by omega) (by omega) (by omega)
  by_cases c0 : v4 = 0
  · obtain ⟨v5, a5, s5, e5, b9, b10⟩ := text_ok l hb a4 s4 [(⟨#[122, 122, 122, 122, 122, 122]⟩ : ByteArray), (⟨#[122, 122, 122, 122, 122, 122, 122]⟩ : ByteArray), (⟨#[97]⟩ : ByteArray)] (by omega) (by omega) (by simp) (by simp)
    refine ⟨r ++ [(⟨v5, 1, 1⟩ : S66)], a5, s5, by simp; omega, by omega, by omega, Ev.bind ev ?_⟩
    simp only [e4, Option.bind_some]
    refine Ev.pos c0 ?_
    rw [e5]
    exact Ev.some (by simp only [Option.bind_some]; rw [if_pos (by omega)])
  by_cases c1 : v4 = 1
  · obtain ⟨v5, a5, s5, e5, _, b9, b10⟩ := among_ok l hb a4 s4 [0, 3, 4] (by omega) (by omega) (by simp) (by simp)
    refine ⟨r ++ [(⟨(⟨#[122, 122]⟩ : ByteArray), v5, 1⟩ : S66)], a5, s5, by simp; omega, by omega, by omega, Ev.bind ev ?_⟩
    simp only [e4, Option.bind_some]
    refine Ev.neg c0 (Ev.pos c1 ?_)
    rw [e5]
    exact Ev.some (by simp only [Option.bind_some]; rw [if_pos (by omega)])
  by_cases c2 : v4 = 2
  · obtain ⟨v5, a5, s5, e5, _, b9, b10⟩ := among_ok l hb a4 s4 [0, 8, 9] (by omega) (by omega) (by simp) (by simp)
    refine ⟨r ++ [(⟨(⟨#[122, 122]⟩ : ByteArray), 2, v5⟩ : S66)], a5, s5, by simp; omega, by omega, by omega, Ev.bind ev ?_⟩
    simp only [e4, Option.bind_some]
    refine Ev.neg c0 (Ev.neg c1 (Ev.pos c2 ?_))
    rw [e5]
    exact Ev.some (by simp only [Option.bind_some]; rw [if_pos (by omega)])
  by_cases c3 : v4 = 3
  · obtain ⟨v5, a5, s5, e5, hv5, b9, b10⟩ := among_ok l hb a4 s4 [16, 17] (by omega) (by omega) (by simp) (by simp)
    have h5 : 0 ≤ v5 ∧ v5 ≤ 17 := by simp at hv5; omega
    obtain ⟨m, rfl⟩ := Int.eq_ofNat_of_zero_le h5.1
    obtain ⟨r5, q1, q2⟩ := draw18_l0 l a5 s5 m m (by omega) 0 [] (by omega) rfl
    refine ⟨r5, a5, s5, by omega, by omega, by omega, Ev.bind ev ?_⟩
    simp only [e4, Option.bind_some]
    refine Ev.neg c0 (Ev.neg c1 (Ev.neg c2 (Ev.pos c3 ?_)))
    simp only [e5, Option.bind_some]
    exact q2
  · refine ⟨r, a4, s4, by omega, by omega, by omega, Ev.bind ev ?_⟩
    simp only [e4, Option.bind_some]
    exact Ev.neg c0 (Ev.neg c1 (Ev.neg c2 (Ev.neg c3 (Ev.now _))))
theorem draw20_l1 (l : List Int) (L : List S66) (a s n : Int) (hn : n ≤ 40) (d : Nat) : ∀ (x : List Int), x.length ≤ 40 → (n - x.length : Int) ≤ d → ∃ r : List Int, r.length ≤ 40 ∧ Ev (fun k => spec_l20Draw.l1 k L x n l a s) (L, r, a, s) := by
  induction d with
  | zero =>
    intro x h1 h2
    refine ⟨x, h1, Ev.shift ?_⟩
    simp only [spec_l20Draw.l1]
    exact Ev.neg (by omega) (Ev.now _)
  | succ d ih =>
    intro x h1 h2
    by_cases c : (x.length : Int) < n
    · obtain ⟨r, q1, q2⟩ := ih (x ++ [0]) (by simp; omega) (by simp; omega)
      refine ⟨r, q1, Ev.shift ?_⟩
      simp only [spec_l20Draw.l1]
      exact Ev.pos c (Ev.pos (by omega) q2)
    · refine ⟨x, h1, Ev.shift ?_⟩
      simp only [spec_l20Draw.l1]
      exact Ev.neg c (Ev.now _)
theorem draw20_j3 (l : List Int) (hb : bytesB l) (L : List S66) (n : Int) (x : List Int) (hx : x.length ≤ 36) (a s : Int) (h0 : 0 ≤ a) (h1 : a ≤ 400000) : ∃ (r : List Int) (a' s' : Int), r.length ≤ 40 ∧ 0 ≤ a' ∧ a' ≤ 500000 ∧ Ev (fun k => spec_l20Draw.j3 k L n x l a s) (L, r, a', s') := by
  obtain ⟨v4, a4, s4, e4, _, _, b7, b8⟩ := pick_ok l hb a s 20 (by omega) (by omega) (by omega)
  by_cases c0 : v4 = 0
  · obtain ⟨v5, a5, s5, e5, _, b9, b10⟩ := among_ok l hb a4 s4 [(-1), n] (by omega) (by omega) (by simp) (by simp)
    refine ⟨x ++ [v5], a5, s5, by simp; omega, by omega, by omega, Ev.shift ?_⟩
    simp only [spec_l20Draw.j3, e4, e5, Option.bind_some]
    exact Ev.pos c0 (Ev.pos (by omega) (Ev.now _))
  by_cases c1 : v4 = 1
  · obtain ⟨v5, a5, s5, e5, hv5, b9, b10⟩ := among_ok l hb a4 s4 [32, 33] (by omega) (by omega) (by simp) (by simp)
    have h5 : v5 ≤ 40 := by simp at hv5; omega
    obtain ⟨r, q1, q2⟩ := draw20_l1 l L a5 s5 v5 h5 (v5 - x.length).toNat x (by omega) (by omega)
    refine ⟨r, a5, s5, q1, by omega, by omega, Ev.shift ?_⟩
    simp only [spec_l20Draw.j3, e4, e5, Option.bind_some]
    exact Ev.neg c0 (Ev.pos c1 q2)
  by_cases c2 : v4 = 2
  · refine ⟨x.take (0 : Int).toNat, a4, s4, by simp, by omega, by omega, Ev.shift ?_⟩
    simp only [spec_l20Draw.j3, e4, Option.bind_some]
    exact Ev.neg c0 (Ev.neg c1 (Ev.pos c2 (Ev.pos (by omega) (Ev.now _))))
  · refine ⟨x, a4, s4, by omega, by omega, by omega, Ev.shift ?_⟩
    simp only [spec_l20Draw.j3, e4, Option.bind_some]
    exact Ev.neg c0 (Ev.neg c1 (Ev.neg c2 (Ev.now _)))
theorem draw20_j2 (l : List Int) (hb : bytesB l) (L : List S66) (n : Int) (x : List Int) (hx : x.length ≤ 18) (c : Bool) (a s : Int) (h0 : 0 ≤ a) (h1 : a ≤ 400000) : ∃ (r : List Int) (a' s' : Int), r.length ≤ 40 ∧ 0 ≤ a' ∧ a' ≤ 500000 ∧ Ev (fun k => spec_l20Draw.j2 k L n x c l a s) (L, r, a', s') := by
  cases c with
  | true =>
    obtain ⟨r, a', s', q1, q2, q3, q4⟩ := draw20_j3 l hb L n (x ++ x) (by simp; omega) a s h0 h1
    refine ⟨r, a', s', q1, q2, q3, Ev.shift ?_⟩
    simp only [spec_l20Draw.j2, spec_l00Own.f, Option.bind_some, List.nil_append, List.length_nil, Nat.zero_add]
    refine Ev.pos trivial ?_
    rw [if_pos (show x.length < 17592186044416 by omega)]
    simp only [Option.bind_some]
    exact Ev.pos (by omega) q4
  | false =>
    obtain ⟨r, a', s', q1, q2, q3, q4⟩ := draw20_j3 l hb L n x (by omega) a s h0 h1
    refine ⟨r, a', s', q1, q2, q3, Ev.shift ?_⟩
    simp only [spec_l20Draw.j2]
    exact Ev.neg (by simp) q4
theorem draw20_l0 (l : List Int) (hb : bytesB l) (L : List S66) (hL : L.length ≤ 20) (d : Nat) : ∀ (x : List Int) (v a s : Int), v < d → d ≤ 10 → x.length + d ≤ 18 → 0 ≤ a → a ≤ 300000 - 4 * (d : Int) → ∃ (r : List Int) (a' s' : Int), r.length ≤ 40 ∧ 0 ≤ a' ∧ a' ≤ 500000 ∧ Ev (fun k => spec_l20Draw.l0 k L (L.length : Int) x v l a s) (L, r, a', s') := by
  have fin : ∀ (x : List Int) (v a s : Int), x.length ≤ 18 → 0 ≤ a → a ≤ 300000 → ∃ (r : List Int) (a' s' : Int), r.length ≤ 40 ∧ 0 ≤ a' ∧ a' ≤ 500000 ∧ Ev (fun k => spec_l20Draw.j1 k L (L.length : Int) x v false l a s) (L, r, a', s') := by
    intro x v a s h1 h2 h3
    obtain ⟨v1, a1, s1, e1, b1, b2⟩ := one_ok l hb a s 4 h2 (by omega) (by omega)
    cases v1 with
    | true =>
      obtain ⟨r, a', s', q1, q2, q3, q4⟩ := draw20_j2 l hb L (L.length : Int) x h1 (decide ((x.length : Int) < 9)) a1 s1 (by omega) (by omega)
      refine ⟨r, a', s', q1, q2, q3, Ev.shift ?_⟩
      simp only [spec_l20Draw.j1, e1, Option.bind_some]
      exact Ev.neg (by simp) (Ev.pos trivial q4)
    | false =>
      obtain ⟨r, a', s', q1, q2, q3, q4⟩ := draw20_j2 l hb L (L.length : Int) x h1 false a1 s1 (by omega) (by omega)
      refine ⟨r, a', s', q1, q2, q3, Ev.shift ?_⟩
      simp only [spec_l20Draw.j1, e1, Option.bind_some]
      exact Ev.neg (by simp) (Ev.neg (by simp) q4)
  induction d with
  | zero =>
    intro x v a s h1 h2 h3 h4 h5
    obtain ⟨r, a', s', q1, q2, q3, q4⟩ := fin x v a s (by omega) h4 (by omega)
    refine ⟨r, a', s', q1, q2, q3, Ev.shift ?_⟩
    simp only [spec_l20Draw.l0]
    exact Ev.neg (by omega) q4
  | succ d ih =>
    intro x v a s h1 h2 h3 h4 h5
    by_cases c : v ≥ 0
    · by_cases c2 : (L.length : Int) > 0
      · obtain ⟨m, hm, hmn⟩ : ∃ m, spec_l00Min.f (L.length : Int) 4 = some m ∧ m ≤ 4 := by
          unfold spec_l00Min.f
          split
          · exact ⟨_, rfl, by omega⟩
          · exact ⟨_, rfl, by omega⟩
        obtain ⟨v1, a1, s1, e1, _, _, b1, b2⟩ := pick_ok l hb a s m (by omega) (by omega) (by omega)
        obtain ⟨r, a', s', q1, q2, q3, q4⟩ := ih (x ++ [v1]) (v - 1) a1 s1 (by omega) (by omega) (by simp; omega) (by omega) (by omega)
        refine ⟨r, a', s', q1, q2, q3, Ev.shift ?_⟩
        simp only [spec_l20Draw.l0]
        refine Ev.pos c (Ev.shift ?_)
        simp only [spec_l20Draw.j1, hm, e1, Option.bind_some, wid (show -9223372036854775808 ≤ v - 1 ∧ v - 1 ≤ 9223372036854775807 by omega)]
        exact Ev.pos (decide_eq_true c2) (Ev.pos (by omega) q4)
      · obtain ⟨r, a', s', q1, q2, q3, q4⟩ := fin x v a s (by omega) h4 (by omega)
        refine ⟨r, a', s', q1, q2, q3, Ev.shift ?_⟩
        simp only [spec_l20Draw.l0]
        refine Ev.pos c ?_
        rw [decide_eq_false c2]
        exact q4
    · obtain ⟨r, a', s', q1, q2, q3, q4⟩ := fin x v a s (by omega) h4 (by omega)
      refine ⟨r, a', s', q1, q2, q3, Ev.shift ?_⟩
      simp only [spec_l20Draw.l0]
      exact Ev.neg c q4
theorem draw20 (l : List Int) (hb : bytesB l) (a s : Int) (h0 : 0 ≤ a) (h1 : a ≤ 1000) : ∃ (L : List S66) (r : List Int) (a' s' : Int), L.length ≤ 20 ∧ r.length ≤ 40 ∧ 0 ≤ a' ∧ a' ≤ 500000 ∧ Ev (fun k => spec_l20Draw.f k l a s) (L, r, a', s') := by
  unfold spec_l20Draw.f
  obtain ⟨L, a1, s1, hL, b1, b2, ev⟩ := draw18 l hb a s h0 h1
  obtain ⟨v4, a4, s4, e4, v0, v1, b7, b8⟩ := pick_ok l hb a1 s1 8 (by omega) (by omega) (by omega)
  obtain ⟨r, a', s', q1, q2, q3, q4⟩ := draw20_l0 l hb L hL 8 [] v4 a4 s4 (by rcases v1 with h | h <;> omega) (by omega) (by simp) (by omega) (by omega)
  refine ⟨L, r, a', s', hL, q1, q2, q3, Ev.bind ev ?_⟩
  simp only [e4, Option.bind_some]
  exact q4
def uacc (l : List S66) : Int → List Int → Int
  | a, [] => a
  | a, i :: is => uacc l (wrap64 (a + (rd_T66 l i).f2)) is
theorem uacc_drop (l : List S66) (t : List Int) (a : Int) (i : Nat) (h : i < t.length) : uacc l a (t.drop i) = uacc l (wrap64 (a + (rd_T66 l (t.getD i 0)).f2)) (t.drop (i + 1)) := by
  rw [List.drop_eq_getElem_cons h, List.getD_eq_getElem?_getD, List.getElem?_eq_getElem h, Option.getD_some]
  rfl
theorem sUnits18_l0 (l : List S66) (t : List Int) (ht : t.length ≤ 35184372088832) (ha : ∀ j, j < t.length → thQ l.length t j = true) (d : Nat) : ∀ (i : Nat) (acc : Int), i + d = t.length → Ev (fun k => spec_l18Units.l0 k l t acc i) (uacc l acc (t.drop i)) := by
  induction d with
  | zero =>
    intro i acc h
    refine Ev.shift ?_
    simp only [spec_l18Units.l0]
    exact Ev.neg (by omega) (Ev.some (by rw [List.drop_of_length_le (by omega)]; rfl))
  | succ d ih =>
    intro i acc h
    have q := of_decide_eq_true (ha i (by omega))
    have w1 : wrap64 ((i : Int) + 1) = ((i + 1 : Nat) : Int) := by rw [wid (by omega)]; rfl
    have h1 := ih (i + 1) (wrap64 (acc + (rd_T66 l (t.getD i 0)).f2)) (by omega)
    rw [uacc_drop l t acc i (by omega)]
    refine Ev.shift ?_
    simp only [spec_l18Units.l0, rd_nat, w1]
    exact Ev.pos (by omega) (Ev.pos (by omega) (Ev.pos (by omega) (Ev.pos (by omega) h1)))
theorem sUnits18 (l : List S66) (t : List Int) (ht : t.length ≤ 35184372088832) (ha : ∀ j, j < t.length → thQ l.length t j = true) : Ev (fun k => spec_l18Units.f k l t) (uacc l 0 t) := by
  unfold spec_l18Units.f
  exact sUnits18_l0 l t ht ha t.length 0 0 (by omega)
theorem sVarIn_l0 (t o : List Int) (ht : t.length ≤ 35184372088832) (ho : o.length ≤ 35184372088832) (d : Nat) : ∀ i : Nat, i + d = o.length → Ev (fun k => spec_IsVariation.l0 k t o i) ((o.drop i).all fun x => decide (x ∈ t)) := by
  induction d with
  | zero =>
    intro i h
    refine Ev.shift ?_
    simp only [spec_IsVariation.l0]
    refine Ev.neg (by omega) (Ev.some ?_)
    rw [List.drop_of_length_le (by omega)]; rfl
  | succ d ih =>
    intro i h
    have w1 : wrap64 ((i : Int) + 1) = ((i + 1 : Nat) : Int) := by rw [wid (by omega)]; rfl
    refine Ev.shift ?_
    simp only [spec_IsVariation.l0, w1]
    refine Ev.pos (by omega) (Ev.pos (by omega) ?_)
    rw [rd_get o i (by omega), List.drop_eq_getElem_cons (by omega), List.all_cons]
    refine Ev.bind (sHas t o[i] ht) ?_
    cases c : decide (o[i] ∈ t) with
    | true => rw [Bool.true_and]; exact Ev.pos rfl (ih (i + 1) (by omega))
    | false => rw [Bool.false_and]; exact Ev.neg (by simp) (Ev.now _)
theorem thCode_in {l : List S66} {t : List Int} {x : Int} (h : thCode l t x = 0) : ∀ j, j < t.length → thQ l.length t j = true := by
  unfold thCode at h
  split at h
  · split at h
    · rename_i h3
      unfold thB at h3
      rw [Bool.and_eq_true] at h3
      exact fun j hj => (allF_iff _).1 h3.1 j hj (Nat.zero_le _)
    · cases h
  · cases h
/-- What is a variation is called one. -/
theorem sIsVar (l : List S66) (t o : List Int) (hl : l.length ≤ 8796093022208) (ht : t.length ≤ 35184372088832) (h : thCode l t 1 = 0) (h64 : o.length ≤ 64) (hin : ∀ x ∈ o, x ∈ t) (hu : uacc l 0 o = uacc l 0 t) : Ev (fun k => spec_IsVariation.f k l t o) true := by
  have ha := thCode_in h
  have hao : ∀ j, j < o.length → thQ l.length o j = true := fun j hj => by
    have hm := hin _ (List.getElem_mem hj)
    obtain ⟨i, hi, e⟩ := List.getElem_of_mem hm
    have := ha i hi
    unfold thQ at this ⊢
    rw [List.getD_eq_getElem?_getD, List.getElem?_eq_getElem hi, Option.getD_some, e] at this
    rw [List.getD_eq_getElem?_getD, List.getElem?_eq_getElem hj, Option.getD_some]
    exact this
  have hc : (allF (thQ l.length o) o.length 0 && decide ((o.length : Int) ≤ 64)) = true := by
    rw [Bool.and_eq_true]
    exact ⟨(allF_iff _).2 fun j hj _ => hao j hj, decide_eq_true (by omega)⟩
  have hco : Ev (fun k => spec_l18Composed.f k l o) (allF (thQ l.length o) o.length 0 && decide ((o.length : Int) ≤ 64)) := by
    unfold spec_l18Composed.f
    exact sComposed_l0 l o hl (by omega) o.length 0 (by omega)
  rw [hc] at hco
  unfold spec_IsVariation.f
  refine Ev.bind (sAsk l t hl ht) (Ev.pos h (Ev.bind hco (Ev.pos rfl (Ev.bind (sUnits18 l o (by omega) hao) (Ev.bind (sUnits18 l t ht ha) (Ev.shift ?_))))))
  simp only [spec_IsVariation.j0]
  rw [hu]
  refine Ev.neg (by simp) ?_
  have := sVarIn_l0 t o ht (by omega) o.length 0 (by omega)
  rw [List.drop_zero] at this
  have e : (o.all fun x => decide (x ∈ t)) = true := List.all_eq_true.2 fun x hx => decide_eq_true (hin x hx)
  rw [e] at this
  exact this
theorem wrap_add (a b : Int) : wrap64 (wrap64 a + b) = wrap64 (a + b) := by unfold wrap64; omega
theorem wrap_add2 (a b : Int) : wrap64 (a + wrap64 b) = wrap64 (a + b) := by unfold wrap64; omega
theorem uacc_wrap (l : List S66) : ∀ (t : List Int) (a b : Int), wrap64 a = wrap64 b → t ≠ [] → uacc l a t = uacc l b t
  | [], _, _, _, h => absurd rfl h
  | i :: is, a, b, h, _ => by
    show uacc l (wrap64 (a + _)) is = uacc l (wrap64 (b + _)) is
    rw [← wrap_add a, h, wrap_add]
theorem uacc_sum (l : List S66) : ∀ (t : List Int) (a b : Int), wrap64 (uacc l (wrap64 (a + b)) t) = wrap64 (a + uacc l (wrap64 b) t)
  | [], a, b => by
    show wrap64 (wrap64 (a + b)) = wrap64 (a + wrap64 b)
    rw [wrap_add2]; have := wrap_add (a + b) 0; rw [Int.add_zero, Int.add_zero] at this; exact this
  | i :: is, a, b => by
    show wrap64 (uacc l (wrap64 (wrap64 (a + b) + _)) is) = wrap64 (a + uacc l (wrap64 (wrap64 b + _)) is)
    rw [wrap_add, wrap_add, Int.add_assoc]
    exact uacc_sum l is a _
theorem uacc_w (l : List S66) : ∀ (t : List Int) (a : Int), wrap64 a = a → wrap64 (uacc l a t) = uacc l a t
  | [], a, h => h
  | i :: is, a, h => uacc_w l is _ (by have := wrap_add (a + (rd_T66 l i).f2) 0; rwa [Int.add_zero, Int.add_zero] at this)
theorem uacc_app (l : List S66) : ∀ (x y : List Int) (a : Int), uacc l a (x ++ y) = uacc l (uacc l a x) y
  | [], y, a => rfl
  | i :: is, y, a => uacc_app l is y _
theorem uacc_plus (l : List S66) (x y : List Int) : uacc l 0 (x ++ y) = wrap64 (uacc l 0 x + uacc l 0 y) := by
  have h0 : wrap64 0 = 0 := wid (by omega)
  rw [uacc_app, ← uacc_w l y (uacc l 0 x) (uacc_w l x 0 h0)]
  have := uacc_sum l y (uacc l 0 x) 0
  rw [Int.add_zero, uacc_w l x 0 h0, h0] at this
  exact this
theorem uw_uacc (l : List S66) : ∀ (t : List Int) (a : Int), uw l a t = uacc l a t
  | [], _ => rfl
  | _ :: is, _ => uw_uacc l is _
theorem vSum_acc (B : List (List Int)) (prev : List Int) (kk : Nat) (m : Int) : ∀ (L : List Int) (a : Int), vSum B prev kk m L a = a + vSum B prev kk m L 0
  | [], a => by simp [vSum]
  | i :: is, a => by
    simp only [vSum]
    rw [vSum_acc B prev kk m is, vSum_acc B prev kk m is (if 0 ≤ vL B kk i m then 0 + rd prev (vL B kk i m) else 0)]
    split <;> omega
theorem vSum_app (B : List (List Int)) (prev : List Int) (kk : Nat) (m : Int) (i : Int) : ∀ (L : List Int) (a : Int), vSum B prev kk m (L ++ [i]) a = vSum B prev kk m L a + (if 0 ≤ vL B kk i m then rd prev (vL B kk i m) else 0)
  | [], a => by simp only [List.nil_append, vSum]; split <;> omega
  | j :: js, a => by simp only [List.cons_append, vSum]; exact vSum_app B prev kk m i js _
/-- Some block below n is the block kk. -/
def exB (B : List (List Int)) (kk n : Nat) : Bool := (B.take n).any fun x => decide (x = B.getD kk [])
theorem exB_succ (B : List (List Int)) (kk n : Nat) (hn : n < B.length) : exB B kk (n + 1) = (exB B kk n || decide (B.getD n [] = B.getD kk [])) := by
  unfold exB
  rw [List.take_add_one, List.any_append, List.getElem?_eq_getElem hn]
  simp [List.getD_eq_getElem?_getD, List.getElem?_eq_getElem hn]
theorem exB_self (B : List (List Int)) (kk : Nat) (hk : kk < B.length) : exB B kk B.length = true := by
  unfold exB
  rw [List.take_length, List.any_eq_true]
  exact ⟨B.getD kk [], by rw [getDL B kk hk]; exact List.getElem_mem hk, decide_eq_true rfl⟩
theorem pick_same {B : List (List Int)} {us : List Int} {kk n : Nat} (hu : ∀ i j, i < B.length → j < B.length → B.getD i [] = B.getD j [] → us.getD i 0 = us.getD j 0) (hn : n < B.length) (hk : kk < B.length) (e : B.getD n [] = B.getD kk []) : ch_pick B us kk n = !exB B kk n := by
  unfold ch_pick exB
  rw [e, hu n kk hn hk e, decide_eq_true rfl, Bool.and_true]
theorem vSum_opts (B : List (List Int)) (us prev : List Int) (kk : Nat) (m : Int) (hm : 0 ≤ m) (hk : kk < B.length) (hp : ∀ q, 0 ≤ rd prev q) (hu : ∀ i j, i < B.length → j < B.length → B.getD i [] = B.getD j [] → us.getD i 0 = us.getD j 0) : ∀ n, n ≤ B.length → (if exB B kk n = true then rd prev m else 0) ≤ vSum B prev kk m (ch_opt B us kk n) 0 ∧ (m = 0 → vSum B prev kk m (ch_opt B us kk n) 0 = if exB B kk n = true then rd prev m else 0)
  | 0, _ => by simp [exB, ch_opt, vSum]
  | n + 1, h => by
    obtain ⟨h1, h2⟩ := vSum_opts B us prev kk m hm hk hp hu n (by omega)
    rw [exB_succ B kk n (by omega)]
    by_cases e : B.getD n [] = B.getD kk []
    · have hv : vL B kk (n : Int) m = m := by unfold vL; rw [Int.toNat_natCast, if_pos e]
      have hpk := pick_same hu (by omega) hk e
      rw [decide_eq_true e, Bool.or_true, if_pos rfl]
      cases hx : exB B kk n with
      | true =>
        rw [hx] at hpk h1 h2
        rw [ch_opt_no hpk]
        exact ⟨h1, h2⟩
      | false =>
        rw [hx] at hpk h1 h2
        rw [ch_opt_yes hpk, vSum_app, hv, if_pos hm]
        simp only [if_neg (show ¬ (false = true) by simp)] at h1 h2
        exact ⟨by omega, fun h0 => by rw [h2 h0]; omega⟩
    · rw [decide_eq_false e, Bool.or_false]
      have hv : vL B kk (n : Int) m = m - 1 := by unfold vL; rw [Int.toNat_natCast, if_neg e]
      cases hpk : ch_pick B us kk n with
      | false => rw [ch_opt_no hpk]; exact ⟨h1, h2⟩
      | true =>
        rw [ch_opt_yes hpk, vSum_app, hv]
        have := hp (m - 1)
        refine ⟨?_, fun h0 => ?_⟩
        · generalize (if exB B kk n = true then rd prev m else 0) = z at h1 ⊢
          split <;> omega
        · rw [h2 h0, if_neg (show ¬ (0 ≤ m - 1) by omega), Int.add_zero]
theorem us_same (l : List S66) (B : List (List Int)) : ∀ i j, i < B.length → j < B.length → B.getD i [] = B.getD j [] → (B.map (uw l 0)).getD i 0 = (B.map (uw l 0)).getD j 0 := by
  intro i j hi hj e
  rw [getDL B i hi, getDL B j hj] at e
  rw [List.getD_eq_getElem?_getD, List.getD_eq_getElem?_getD, List.getElem?_map, List.getElem?_map, List.getElem?_eq_getElem hi, List.getElem?_eq_getElem hj, Option.map_some, Option.map_some, Option.getD_some, Option.getD_some, e]
/-- There is always a way (the theme itself); without changes there is just one. -/
theorem vAt_pos (l : List S66) (B : List (List Int)) (M : Nat) : ∀ d, d ≤ B.length → ∀ m : Nat, m ≤ M → 1 ≤ rd (vAt B (vO l B) M d) m ∧ (m = 0 → rd (vAt B (vO l B) M d) m = 1)
  | 0, _, m, hm => by
    have : rd (vAt B (vO l B) M 0) m = 1 := by
      rw [rd_nat]
      show (List.replicate (M + 1) 1).getD m 0 = 1
      rw [List.getD_eq_getElem?_getD, List.getElem?_replicate, if_pos (by omega)]
      rfl
    rw [this]; exact ⟨by omega, fun _ => rfl⟩
  | d + 1, hd, m, hm => by
    obtain ⟨h1, h2⟩ := vAt_pos l B M d (by omega) m hm
    have hk : B.length - 1 - d < B.length := by omega
    rw [vAt_get B (vO l B) M d m hm, vO_get l B _ hk]
    obtain ⟨h3, h4⟩ := vSum_opts B (B.map (uw l 0)) (vAt B (vO l B) M d) (B.length - 1 - d) (m : Int) (by omega) hk (fun q => (vAt_bnd B (vO l B) M d q).1) (us_same l B) B.length (Nat.le_refl _)
    rw [exB_self B _ hk, if_pos rfl] at h3 h4
    refine ⟨by omega, fun h0 => ?_⟩
    rw [h4 (by omega), h2 h0]
    decide
/-- One step of the numbered variation: it picks a block. -/
theorem nI_pick (B : List (List Int)) (prev : List Int) (kk : Nat) (m : Int) (hp : ∀ q, 0 ≤ rd prev q ∧ rd prev q ≤ 20001) : ∀ (L o : List Int) (n : Int), 0 ≤ n → n ≤ 30000 → n < vSum B prev kk m L 0 → ∃ i ∈ L, 0 ≤ vL B kk i m ∧ ∃ n', nI B prev kk L o m n = (o ++ B.getD i.toNat [], vL B kk i m, n') ∧ 0 ≤ n' ∧ n' < rd prev (vL B kk i m)
  | [], o, n, h0, _, h => by simp [vSum] at h; omega
  | i :: is, o, n, h0, h1, h => by
    simp only [vSum] at h
    rw [vSum_acc] at h
    simp only [nI]
    by_cases c : vL B kk i m < 0
    · rw [if_pos c]
      rw [if_neg (by omega)] at h
      obtain ⟨j, hj, q⟩ := nI_pick B prev kk m hp is o n h0 h1 (by omega)
      exact ⟨j, List.mem_cons_of_mem _ hj, q⟩
    · rw [if_neg c]
      rw [if_pos (by omega)] at h
      by_cases c2 : n < rd prev (vL B kk i m)
      · rw [if_pos c2]
        exact ⟨i, List.mem_cons_self, by omega, n, rfl, h0, c2⟩
      · rw [if_neg c2]
        have hb := hp (vL B kk i m)
        rw [wid (by omega)]
        obtain ⟨j, hj, q⟩ := nI_pick B prev kk m hp is o (n - rd prev (vL B kk i m)) (by omega) (by omega) (by omega)
        exact ⟨j, List.mem_cons_of_mem _ hj, q⟩
theorem opt_mem {B : List (List Int)} {us : List Int} {kk n : Nat} {i : Int} (h : i ∈ ch_opt B us kk n) : 0 ≤ i ∧ i.toNat < n ∧ us.getD i.toNat 0 = us.getD kk 0 := by
  unfold ch_opt at h
  obtain ⟨y, hy, rfl⟩ := List.mem_map.1 h
  obtain ⟨h1, h2⟩ := List.mem_filter.1 hy
  unfold ch_pick at h2
  rw [Bool.and_eq_true] at h2
  rw [Int.toNat_natCast]
  exact ⟨Int.natCast_nonneg _, List.mem_range.1 h1, of_decide_eq_true h2.2⟩
theorem us_at (l : List S66) (B : List (List Int)) (j : Nat) (hj : j < B.length) : (B.map (uw l 0)).getD j 0 = uacc l 0 (B.getD j []) := by
  rw [List.getD_eq_getElem?_getD, List.getElem?_map, List.getElem?_eq_getElem hj, Option.map_some, Option.getD_some, getDL B j hj, uw_uacc]
theorem drop_flat (B : List (List Int)) (d : Nat) (hd : d + 1 ≤ B.length) : (B.drop (B.length - (d + 1))).flatten = B.getD (B.length - 1 - d) [] ++ (B.drop (B.length - d)).flatten := by
  rw [List.drop_eq_getElem_cons (by omega), List.flatten_cons, getDL B _ (by omega)]
  have e : B.length - (d + 1) + 1 = B.length - d := by omega
  have e2 : B.length - (d + 1) = B.length - 1 - d := by omega
  rw [e]
  congr 1
  simp only [e2]
/-- What the numbered variation has: blocks of the theme, as many units as the theme's. -/
theorem nO_var (l : List S66) (B : List (List Int)) (M a : Nat) (ha : ∀ x ∈ B, x.length ≤ a) : ∀ (d : Nat) (o : List Int) (m n : Int), d ≤ B.length → 0 ≤ m → m ≤ M → 0 ≤ n → n ≤ 20000 → n < rd (vAt B (vO l B) M d) m → ∃ r, nO B (vO l B) M d o m n = o ++ r ∧ (∀ x ∈ r, x ∈ B.flatten) ∧ r.length ≤ a * d ∧ uacc l 0 r = uacc l 0 (B.drop (B.length - d)).flatten ∧ (m = 0 → r = (B.drop (B.length - d)).flatten)
  | 0, o, m, n, _, _, _, _, _, _ => ⟨[], by simp [nO], by simp, by simp, by simp, by simp⟩
  | d + 1, o, m, n, hd, h0, hM, hn, hn2, hlt => by
    have hk : B.length - 1 - d < B.length := by omega
    obtain ⟨mm, rfl⟩ := Int.eq_ofNat_of_zero_le h0
    have hb := vAt_bnd B (vO l B) M d
    rw [vAt_get B (vO l B) M d mm (by omega)] at hlt
    obtain ⟨i, hi, hv, n', hnI, hn0, hnl⟩ := nI_pick B (vAt B (vO l B) M d) (B.length - 1 - d) (mm : Int) hb ((vO l B).getD (B.length - 1 - d) []) o n hn (by omega) (by omega)
    have hvm : vL B (B.length - 1 - d) i (mm : Int) ≤ mm := by unfold vL; split <;> omega
    rw [vO_get l B _ hk] at hi
    obtain ⟨i0, i1, i2⟩ := opt_mem hi
    have hb2 := hb (vL B (B.length - 1 - d) i (mm : Int))
    obtain ⟨r, e1, e2, e3, e4, e5⟩ := nO_var l B M a ha d (o ++ B.getD i.toNat []) (vL B (B.length - 1 - d) i (mm : Int)) n' (by omega) hv (by omega) hn0 (by
      omega) hnl
    refine ⟨B.getD i.toNat [] ++ r, ?_, ?_, ?_, ?_, ?_⟩
    · simp only [nO]
      rw [hnI]
      simp only
      rw [e1, List.append_assoc]
    · intro x hx
      rcases List.mem_append.1 hx with hx | hx
      · exact List.mem_flatten.2 ⟨_, by rw [getDL B _ i1]; exact List.getElem_mem i1, hx⟩
      · exact e2 x hx
    · have := ha (B.getD i.toNat []) (by rw [getDL B _ i1]; exact List.getElem_mem i1)
      rw [List.length_append, Nat.mul_add, Nat.mul_one]; omega
    · rw [us_at l B _ i1, us_at l B _ hk] at i2
      rw [drop_flat B d hd, uacc_plus, uacc_plus, i2, e4]
    · intro hz
      have hmm : mm = 0 := by omega
      subst hmm
      have hvz : vL B (B.length - 1 - d) i ((0 : Nat) : Int) = 0 := by omega
      have hbe : B.getD i.toNat [] = B.getD (B.length - 1 - d) [] := by
        unfold vL at hvz
        split at hvz
        · assumption
        · omega
      rw [drop_flat B d hd, e5 hvz, hbe]
theorem chunks_flat (n : Nat) (hn : 1 ≤ n) (t : List Int) : (chunks n t).flatten = t := by
  have key : ∀ (q i : Nat), t.length ≤ (i + q) * n → ((List.range' i q).map fun k => chunk n t (k * n)).flatten = t.drop (i * n) := by
    intro q
    induction q with
    | zero => intro i h; rw [List.drop_of_length_le (by simpa using h)]; rfl
    | succ q ih =>
      intro i h
      rw [List.range'_succ, List.map_cons, List.flatten_cons, ih (i + 1) (by rw [show i + 1 + q = i + (q + 1) by omega]; exact h)]
      unfold chunk
      rw [Nat.add_mul, Nat.one_mul, ← List.drop_drop, List.take_append_drop]
  unfold chunks
  rw [List.range_eq_range']
  have hq := key ((t.length + n - 1) / n) 0 (by
    have := (Nat.div_lt_iff_lt_mul (x := t.length + n - 1) (y := (t.length + n - 1) / n + 1) (by omega : 0 < n)).1 (Nat.lt_succ_self _)
    rw [Nat.add_mul] at this; rw [Nat.zero_add]; omega)
  rw [Nat.zero_mul, List.drop_zero] at hq
  exact hq
theorem chunks_fit (n : Nat) (hn : 1 ≤ n ∧ n ≤ 32) (t : List Int) (ht : t.length ≤ 32) : n * (chunks n t).length ≤ 64 := by
  unfold chunks
  rw [List.length_map, List.length_range]
  have := Nat.mul_div_le (t.length + n - 1) n
  omega
theorem chunks_le (n : Nat) (t : List Int) : ∀ x ∈ chunks n t, x.length ≤ n := by
  intro x hx
  unfold chunks at hx
  obtain ⟨k, _, rfl⟩ := List.mem_map.1 hx
  unfold chunk
  rw [List.length_take]; omega
theorem thCode_1 {l : List S66} {t : List Int} {x : Int} (h : thCode l t x = 0) : thCode l t 1 = 0 := by
  unfold thCode at h ⊢
  split at h
  · rename_i h1
    rw [if_pos h1]
    split at h
    · rename_i h2; rw [if_pos h2, if_pos (by omega)]
    · cases h
  · cases h
theorem nv_main (l : List S66) (t : List Int) (a m n : Int) (hl : l.length ≤ 8796093022208) (h : (cvR l t a m).2 = 0) :
    1 ≤ (cvR l t a m).1 ∧ ((nvR l t a m n).2 = 0 ↔ 0 ≤ n ∧ n < (cvR l t a m).1) ∧ cvR l t a 0 = (1, 0) ∧ nvR l t a 0 0 = (t, 0) ∧ ((nvR l t a m n).2 = 0 → Ev (fun k => spec_IsVariation.f k l t (nvR l t a m n).1) true) := by
  by_cases h1 : thCode l t a = 0
  · obtain ⟨ht, ha⟩ := thCode_len h1
    have hcn := @chunks_count a.toNat t (by omega)
    have hfl := chunks_flat a.toNat (by omega) t
    have hft := chunks_fit a.toNat (by omega) t ht.2
    have hle := chunks_le a.toNat t
    have h10 := thCode_1 h1
    by_cases hm : 0 ≤ m ∧ m ≤ 32
    · unfold cvR nvR at *
      simp only [if_pos h1, if_pos hm, if_pos (show (0 : Int) ≤ 0 ∧ (0 : Int) ≤ 32 by omega)] at h ⊢
      generalize chunks a.toNat t = B at *
      obtain ⟨mm, rfl⟩ := Int.eq_ofNat_of_zero_le hm.1
      have p1 := vAt_pos l B mm B.length (Nat.le_refl _) mm (Nat.le_refl _)
      have p0 := (vAt_pos l B 0 B.length (Nat.le_refl _) 0 (Nat.le_refl _)).2 rfl
      rw [Int.toNat_natCast] at h ⊢
      rw [show (0 : Int).toNat = 0 from rfl]
      have p0' : rd (vAt B (vO l B) 0 B.length) 0 = 1 := p0
      by_cases c : 20000 < rd (vAt B (vO l B) mm B.length) (mm : Int)
      · rw [if_pos c] at h; cases h
      rw [if_neg c] at h ⊢
      simp only [if_neg c]
      have v0 := nO_var l B 0 a.toNat hle B.length [] 0 0 (Nat.le_refl _) (Int.le_refl _) (Int.le_refl _) (Int.le_refl _) (by omega) (by omega)
      obtain ⟨r0, q1, _, _, _, q5⟩ := v0
      have q5' := q5 rfl
      rw [Nat.sub_self, List.drop_zero, hfl] at q5'
      have hw : wrap64 (rd (vAt B (vO l B) mm B.length) (mm : Int) - 1) = rd (vAt B (vO l B) mm B.length) (mm : Int) - 1 := wid (by omega)
      rw [hw]
      refine ⟨p1.1, ?_, ?_, ?_, ?_⟩
      · by_cases c2 : 0 ≤ n ∧ n ≤ rd (vAt B (vO l B) mm B.length) (mm : Int) - 1
        · rw [if_pos c2]; exact ⟨fun _ => by omega, fun _ => rfl⟩
        · rw [if_neg c2]; exact ⟨fun e => by simp at e, fun e => by omega⟩
      · rw [p0', if_neg (by omega)]
      · rw [p0', if_neg (by omega), if_pos (by rw [wid (by omega)]; omega), q1, q5', List.nil_append]
      · by_cases c2 : 0 ≤ n ∧ n ≤ rd (vAt B (vO l B) mm B.length) (mm : Int) - 1
        · rw [if_pos c2]
          intro _
          obtain ⟨r, q1, q2, q3, q4, _⟩ := nO_var l B mm a.toNat hle B.length [] (mm : Int) n (Nat.le_refl _) (by omega) (Int.le_refl _) c2.1 (by omega) (by omega)
          rw [Nat.sub_self, List.drop_zero, hfl] at q4
          rw [hfl] at q2
          simp only
          rw [q1, List.nil_append]
          exact sIsVar l t r hl (by omega) h10 (by omega) q2 q4
        · rw [if_neg c2]; intro e; simp at e
    · unfold cvR at h
      rw [if_pos h1, if_neg hm] at h
      cases h
  · unfold cvR at h
    rw [if_neg h1] at h
    exact absurd h h1
theorem nv_err (l : List S66) (t : List Int) (a m n : Int) (h : (cvR l t a m).2 ≠ 0) : (nvR l t a m n).2 = (cvR l t a m).2 ∧ (nvR l t a m n).1 = [] ∧ (cvR l t a m).1 = 0 := by
  unfold cvR nvR at *
  by_cases h1 : thCode l t a = 0
  · rw [if_pos h1] at h
    simp only [if_pos h1]
    by_cases hm : 0 ≤ m ∧ m ≤ 32
    · rw [if_pos hm] at h
      simp only [if_pos hm]
      split at h
      · rename_i c
        simp only [if_pos c, and_self]
      · exact absurd rfl h
    · simp only [if_neg hm, and_self]
  · simp only [if_neg h1, and_self]
theorem b10_l0 (x y : List Int) (hx : x.length ≤ 1000000) (e : x = y) (d : Nat) : ∀ i : Nat, i + d = x.length → Ev (fun k => laws_b10Nums.l0 k x y i) true := by
  subst e
  induction d with
  | zero =>
    intro i h
    refine Ev.shift ?_
    simp only [laws_b10Nums.l0]
    exact Ev.neg (by omega) (Ev.now _)
  | succ d ih =>
    intro i h
    have w1 : wrap64 ((i : Int) + 1) = ((i + 1 : Nat) : Int) := by rw [wid (by omega)]; rfl
    refine Ev.shift ?_
    simp only [laws_b10Nums.l0, w1]
    repeat (first | exact ih (i + 1) (by omega) | refine Ev.pos (by omega) ?_ | refine Ev.neg (by simp; done) ?_ | refine Ev.pos rfl ?_)
theorem b10_same (x : List Int) (hx : x.length ≤ 1000000) : Ev (fun k => laws_b10Nums.f k x x) true := by
  unfold laws_b10Nums.f
  exact Ev.pos rfl (b10_l0 x x hx rfl x.length 0 (by omega))
theorem FnVariants : laws_FnVariants.Pure := by
  intro x0 _ _ hw
  have hb : bytesB x0 := fun j hj => by
    have h := hw _ (List.getElem_mem hj)
    rw [List.getD_eq_getElem?_getD, List.getElem?_eq_getElem hj, Option.getD_some]
    simp [Lit.wf, IntKind.min, IntKind.max, IntKind.signed, IntKind.bits] at h
    omega
  refine Ev.rounds (g := fun k => laws_FnVariants.f k x0) ?_
  obtain ⟨L, t, a1, s1, hL, ht, b1, b2, ev⟩ := draw20 x0 hb 0 0 (by omega) (by omega)
  obtain ⟨ln, a2, s2, e2, _, b3, b4⟩ := among_ok x0 hb a1 s1 [1, 2, 2, 3, 4, 32, 33, 0] (by omega) (by omega) (by simp) (by simp)
  obtain ⟨mo, a3, s3, e3, _, b5, b6⟩ := among_ok x0 hb a2 s2 [0, 1, 2, 3, 32, 33, (-1), 1] (by omega) (by omega) (by simp) (by simp)
  obtain ⟨nu, a4, s4, e4, _, _, b7, b8⟩ := pick_ok x0 hb a3 s3 14 (by omega) (by omega) (by omega)
  have hd : Ev (fun k => spec_DrawNumberedVariation.f k x0) (L, t, ln, mo, wrap64 (nu - 1)) := by
    unfold spec_DrawNumberedVariation.f spec_l00From.f spec_l20DrawLength.f spec_l20DrawMost.f
    simp only [Option.bind_some]
    refine Ev.bind ev ?_
    simp only [e2, e3, e4, Option.bind_some]
    exact Ev.now _
  generalize wrap64 (nu - 1) = n at hd
  have hC := cvI L t ln mo (by omega)
  have hN := nvI L t ln mo n (by omega)
  have hC0 := cvI L t ln 0 (by omega)
  have hN0 := nvI L t ln 0 0 (by omega)
  have hM := nv_main L t ln mo n (by omega)
  have hE := nv_err L t ln mo n
  unfold laws_FnVariants.f laws_b10Long.f
  simp only [Option.bind_some]
  generalize decide ((x0.length : Int) > 1048576) = q0
  cases q0 with
  | true => exact Ev.pos rfl (Ev.now _)
  | false =>
    refine Ev.neg (by simp) (Ev.bind hd (Ev.bind hC (Ev.bind hN ?_)))
    by_cases h : (cvR L t ln mo).2 = 0
    · obtain ⟨m1, m2, m3, m4, m5⟩ := hM h
      rw [m3] at hC0
      rw [m4] at hN0
      clear hM hE hC hN
      have J : Ev (fun k => laws_FnVariants.j0 k L t ln (nvR L t ln mo n).1 (nvR L t ln mo n).2 false) true := by
        refine Ev.shift ?_
        simp only [laws_FnVariants.j0]
        refine Ev.neg (by simp) (Ev.bind hC0 (Ev.bind hN0 (Ev.pos rfl (Ev.pos rfl (Ev.pos rfl (Ev.bind (b10_same t (by omega)) (Ev.pos rfl ?_)))))))
        by_cases e : (nvR L t ln mo n).2 = 0
        · exact Ev.pos e (Ev.bind (m5 e) (Ev.now _))
        · exact Ev.neg e (Ev.now _)
      refine Ev.pos h (Ev.neg (by omega) ?_)
      by_cases hn : n ≥ 0
      · have e : (((nvR L t ln mo n).2 == 0) != (decide (n < (cvR L t ln mo).1))) = false := by
          by_cases c : n < (cvR L t ln mo).1
          · rw [m2.2 ⟨hn, c⟩, decide_eq_true c]; rfl
          · rw [decide_eq_false c, beq_eq_false_iff_ne.2 (fun z => c (m2.1 z).2)]; rfl
        refine Ev.pos hn ?_
        rw [e]
        exact J
      · have e : (((nvR L t ln mo n).2 == 0) != false) = false := by
          rw [beq_eq_false_iff_ne.2 (fun z => hn (m2.1 z).1)]; rfl
        refine Ev.neg hn ?_
        rw [e]
        exact J
    · obtain ⟨f1, f2, f3⟩ := hE h
      refine Ev.neg h (Ev.pos f1 (Ev.pos (by rw [f2]; rfl) (Ev.some ?_)))
      rw [f3]; rfl

end Go.Proofs.Ytidbcglhpaamdaa.Pure
