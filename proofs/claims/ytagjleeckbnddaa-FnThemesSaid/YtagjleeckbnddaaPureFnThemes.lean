/- The pure statement of the law FnThemes: what the Go functions compute, told by plain Lean functions, is what the law asks, for all arguments. No condition beyond the printed ones. -/
import Derived.Test.YtagjleeckbnddaaPFnThemesx16
import Derived.Test.YtagjleeckbnddaaXW
namespace Go.Proofs.Ytagjleeckbnddaa.Pure
open Go.RowKit Go.Proofs.Ytagjleeckbnddaa.PFnThemes Go.Proofs.YtagjleeckbnddaaW.PrintWords Go.Proofs.YtagjleeckbnddaaW.PrintLast Go.Proofs.YtagjleeckbnddaaW.PrintMore Go.Proofs.YtagjleeckbnddaaXW
set_option linter.unusedVariables false
set_option linter.unusedSimpArgs false
theorem in_eq (a b c : Int) : spec_l00In.f a b c = some (decide (b ≤ a ∧ a ≤ c)) := by
 unfold spec_l00In.f; split <;> simp_all; omega
theorem within_eq (a b c : Int) : impl_within.f a b c = some (decide (b ≤ a ∧ a ≤ c)) := by
 unfold impl_within.f; split <;> simp_all; omega
theorem allIn_eq (l : List Int) (a b : Int) : impl_allWithin.f l a b = some (l.all fun x => decide (a ≤ x ∧ x ≤ b)) := by
 unfold impl_allWithin.f
 rw [List.not_any_eq_all_not]
 congr 2
 funext x
 simp [allP]
theorem sHas_l0 (l : List Int) (n : Int) (hl : l.length ≤ 35184372088832) (d : Nat) : ∀ (i : Nat), i + d = l.length → Ev (fun k => spec_l00Has.l0 k l n i) (decide (n ∈ l.drop i)) := by
 induction d with
 | zero =>
  intro i h1
  refine Ev.shift ?_
  simp only [spec_l00Has.l0]
  refine Ev.neg (by omega) (Ev.some ?_)
  rw [List.drop_of_length_le (by omega)]; simp
 | succ d ih =>
  intro i h1
  refine Ev.shift ?_
  simp only [spec_l00Has.l0]
  refine Ev.pos (by omega) (Ev.pos (by omega) ?_)
  rw [rd_get l i (by omega), List.drop_eq_getElem_cons (by omega)]
  by_cases h : l[i] = n
  ·exact Ev.pos h (Ev.some (by rw [h]; simp))
  ·refine Ev.neg h ?_
   rw [wid (by omega)]
   refine Ev.same (ih (i + 1) (by omega)) ?_
   rw [decide_eq_decide, List.mem_cons]
   exact ⟨fun h2 => Or.inr h2, fun h2 => h2.elim (fun e => absurd e.symm h) id⟩
theorem sHas (l : List Int) (n : Int) (hl : l.length ≤ 35184372088832) : Ev (fun k => spec_l00Has.f k l n) (decide (n ∈ l)) := by
 unfold spec_l00Has.f
 have := sHas_l0 l n hl l.length 0 (by omega)
 simpa using this
def chQ (s : ByteArray) (j : Nat) : Bool := decide (97 ≤ bt s j ∧ bt s j ≤ 122) || decide (48 ≤ bt s j ∧ bt s j ≤ 57)
def nameB (s : ByteArray) : Bool := decide (1 ≤ s.size ∧ s.size ≤ 10) && (decide (97 ≤ bt s 0 ∧ bt s 0 ≤ 122) && allF (chQ s) s.size 0)
theorem small_eq (a : Int) : spec_l01Small.f a = some (decide (97 ≤ a ∧ a ≤ 122)) := by
 unfold spec_l01Small.f; split <;> simp_all; omega
theorem digit_eq (a : Int) : spec_l01Digit.f a = some (decide (48 ≤ a ∧ a ≤ 57)) := by
 unfold spec_l01Digit.f; split <;> simp_all; omega
theorem sName_l0 (s : ByteArray) (hs : s.size ≤ 10) (d : Nat) : ∀ (i : Nat), i + d = s.size → Ev (fun k => spec_l01Name.l0 k s i) (allF (chQ s) s.size i) := by
 induction d with
 | zero =>
  intro i h1
  refine Ev.shift ?_
  simp only [spec_l01Name.l0]
  exact Ev.neg (by omega) (Ev.some (by rw [allF_end _ (by omega)]))
 | succ d ih =>
  intro i h1
  have w1 : wrap64 ((i : Int) + 1) = ((i + 1 : Nat) : Int) := by rw [wid (by omega)]; rfl
  refine Ev.shift ?_
  simp only [spec_l01Name.l0, small_eq, digit_eq, Option.bind_some, w1]
  refine Ev.pos (by omega) (Ev.pos (by omega) ?_)
  by_cases a : 97 ≤ bt s i ∧ bt s i ≤ 122
  ·rw [allF_yes _ (show chQ s i = true by unfold chQ; rw [decide_eq_true a]; rfl)]
   exact Ev.pos (decide_eq_true a) (ih (i + 1) (by omega))
  ·refine Ev.neg (by rw [decide_eq_true_iff]; exact a) ?_
   by_cases b : 48 ≤ bt s i ∧ bt s i ≤ 57
   ·rw [allF_yes _ (show chQ s i = true by unfold chQ; rw [decide_eq_true b, Bool.or_true])]
    exact Ev.pos (decide_eq_true b) (ih (i + 1) (by omega))
   ·rw [allF_no _ (by omega) (show chQ s i = false by unfold chQ; rw [decide_eq_false a, decide_eq_false b]; rfl)]
    exact Ev.neg (by rw [decide_eq_true_iff]; exact b) (Ev.now _)
theorem sName (s : ByteArray) : Ev (fun k => spec_l01Name.f k s) (nameB s) := by
 unfold spec_l01Name.f nameB
 simp only [small_eq, Option.bind_some]
 have e : s.toList.length = s.size := by rw [ByteArray.toList_eq]; simp
 have f : Ev (fun k => spec_l01Name.j0 k s true) false := by
  refine Ev.shift ?_
  simp only [spec_l01Name.j0]
  exact Ev.pos trivial (Ev.now _)
 by_cases h0 : s.toList = []
 ·refine Ev.pos h0 ?_
  rw [h0] at e
  rw [decide_eq_false (by simp at e; omega)]
  exact f
 ·refine Ev.neg h0 ?_
  have hp : 0 < s.toList.length := List.length_pos_iff.2 h0
  by_cases h1 : (s.size : Int) > 10
  ·refine Ev.pos h1 ?_
   rw [decide_eq_false (show ¬ (1 ≤ s.size ∧ s.size ≤ 10) by omega)]
   exact f
  ·refine Ev.neg h1 (Ev.pos (by omega) ?_)
   rw [decide_eq_true (show 1 ≤ s.size ∧ s.size ≤ 10 by omega), Bool.true_and]
   cases hb : decide (97 ≤ bt s 0 ∧ bt s 0 ≤ 122) with
   | false => exact f
   | true =>
    refine Ev.shift ?_
    simp only [spec_l01Name.j0]
    exact Ev.neg (by decide) (sName_l0 s (by omega) s.size 0 (by omega))
theorem iName_l0 (s : ByteArray) (hs : s.size ≤ 10) (d : Nat) : ∀ (i : Nat), i + d = s.size → Ev (fun k => impl_onlyNameBytes.l0 k s (s.size : Int) i) (allF (chQ s) s.size i) := by
 induction d with
 | zero =>
  intro i h1
  refine Ev.shift ?_
  simp only [impl_onlyNameBytes.l0]
  exact Ev.neg (by omega) (Ev.some (by rw [allF_end _ (by omega)]))
 | succ d ih =>
  intro i h1
  have w1 : wrap64 ((i : Int) + 1) = ((i + 1 : Nat) : Int) := by rw [wid (by omega)]; rfl
  refine Ev.shift ?_
  simp only [impl_onlyNameBytes.l0, w1]
  refine Ev.pos (by omega) (Ev.pos (by omega) (Ev.pos (by omega) ?_))
  by_cases a : 97 ≤ bt s i ∧ bt s i ≤ 122
  ·rw [allF_yes _ (show chQ s i = true by unfold chQ; rw [decide_eq_true a]; rfl)]
   exact Ev.neg (by omega) (Ev.neg (by omega) (ih (i + 1) (by omega)))
  ·by_cases b : 48 ≤ bt s i ∧ bt s i ≤ 57
   ·rw [allF_yes _ (show chQ s i = true by unfold chQ; rw [decide_eq_true b, Bool.or_true])]
    exact Ev.pos (by omega) (Ev.neg (by omega) (Ev.neg (by omega) (ih (i + 1) (by omega))))
   ·rw [allF_no _ (by omega) (show chQ s i = false by unfold chQ; rw [decide_eq_false a, decide_eq_false b]; rfl)]
    by_cases c : bt s i < 97
    ·refine Ev.pos c ?_
     by_cases c2 : bt s i < 48
     ·exact Ev.pos c2 (Ev.now _)
     ·exact Ev.neg c2 (Ev.pos (by omega) (Ev.now _))
    ·exact Ev.neg c (Ev.pos (by omega) (Ev.neg (by omega) (Ev.pos (by omega) (Ev.now _))))
theorem iName (s : ByteArray) : Ev (fun k => impl_IsName.f k s) (nameB s) := by
 unfold impl_IsName.f nameB impl_onlyNameBytes.f
 by_cases h0 : (s.size : Int) < 1
 ·rw [decide_eq_false (show ¬ (1 ≤ s.size ∧ s.size ≤ 10) by omega)]
  exact Ev.pos h0 (Ev.now _)
 ·refine Ev.neg h0 ?_
  by_cases h1 : (s.size : Int) > 10
  ·rw [decide_eq_false (show ¬ (1 ≤ s.size ∧ s.size ≤ 10) by omega)]
   exact Ev.pos h1 (Ev.now _)
  ·rw [decide_eq_true (show 1 ≤ s.size ∧ s.size ≤ 10 by omega), Bool.true_and]
   refine Ev.neg h1 (Ev.pos (by omega) ?_)
   by_cases a : bt s 0 < 97
   ·rw [decide_eq_false (show ¬ (97 ≤ bt s 0 ∧ bt s 0 ≤ 122) by omega)]
    exact Ev.pos a (Ev.now _)
   ·refine Ev.neg a ?_
    by_cases b : bt s 0 > 122
    ·rw [decide_eq_false (show ¬ (97 ≤ bt s 0 ∧ bt s 0 ≤ 122) by omega)]
     exact Ev.pos b (Ev.now _)
    ·rw [decide_eq_true (show 97 ≤ bt s 0 ∧ bt s 0 ≤ 122 by omega), Bool.true_and]
     exact Ev.neg b (Ev.bind (iName_l0 s (by omega) s.size 0 (by omega)) (Ev.now _))
def sylB (x : S93) : Bool := nameB x.f0 && (decide ((x.f0.size : Int) ≤ 6) && (decide (1 ≤ x.f1 ∧ x.f1 ≤ 3) && decide (1 ≤ x.f2 ∧ x.f2 ≤ 8)))
theorem dec_and (p q : Prop) [Decidable p] [Decidable q] : (decide p && decide q) = decide (p ∧ q) := by
 by_cases p <;> by_cases q <;> simp [*]
theorem sSyl (x : S93) : Ev (fun k => spec_l18One_at.f k x.f0 x.f1 x.f2) (sylB x) := by
 unfold spec_l18One_at.f
 refine Ev.bind (sName x.f0) (Ev.same (Ev.now _) ?_)
 unfold sylB
 rw [dec_and, dec_and]
theorem rdSy (l : List S93) (i : Nat) : rd_T93 l (i : Int) = l.getD i z93 := by
 unfold rd_T93
 rw [Int.toNat_natCast]
def syQ (l : List S93) (j : Nat) : Bool := sylB (l.getD j z93) && (decide (j = 0) || Op.bytesLess (l.getD (j - 1) z93).f0.toList (l.getD j z93).f0.toList)
def sylsB (l : List S93) : Bool := allF (syQ l) l.length 0 && decide ((l.length : Int) ≤ 16)
theorem sSyls_l0 (l : List S93) (hl : l.length ≤ 8796093022208) (d : Nat) : ∀ (i : Nat), i + d = l.length → Ev (fun k => spec_l18Ok.l0 k l i) (allF (syQ l) l.length i && decide ((l.length : Int) ≤ 16)) := by
 induction d with
 | zero =>
  intro i h1
  refine Ev.shift ?_
  simp only [spec_l18Ok.l0]
  exact Ev.neg (by omega) (Ev.some (by rw [allF_end _ (by omega), Bool.true_and]))
 | succ d ih =>
  intro i h1
  have w1 : wrap64 ((i : Int) + 1) = ((i + 1 : Nat) : Int) := by rw [wid (by omega)]; rfl
  refine Ev.shift ?_
  simp only [spec_l18Ok.l0, rdSy, w1]
  refine Ev.pos (by omega) (Ev.pos (by omega) (Ev.bind (sSyl _) ?_))
  cases hb : sylB (l.getD i z93) with
  | false =>
   rw [allF_no _ (by omega) (show syQ l i = false by unfold syQ; rw [hb]; rfl)]
   exact Ev.neg (by decide) (Ev.now _)
  | true =>
   refine Ev.pos rfl ?_
   cases i with
   | zero =>
    rw [allF_yes _ (show syQ l 0 = true by unfold syQ; rw [hb]; rfl)]
    exact Ev.neg (by omega) (ih 1 (by omega))
   | succ i =>
    refine Ev.pos (by omega) ?_
    have e1 : wrap64 (((i + 1 : Nat) : Int) - 1) = (i : Int) := by rw [wid (by omega)]; omega
    rw [e1, rdSy]
    refine Ev.pos (by omega) (Ev.pos (by omega) ?_)
    have e2 : syQ l (i + 1) = Op.bytesLess (l.getD i z93).f0.toList (l.getD (i + 1) z93).f0.toList := by
     unfold syQ
     rw [hb, decide_eq_false (by omega), Bool.true_and, Bool.false_or]
     rfl
    cases hc : Op.bytesLess (l.getD i z93).f0.toList (l.getD (i + 1) z93).f0.toList with
    | true =>
     rw [allF_yes _ (e2.trans hc)]
     exact Ev.pos rfl (ih (i + 2) (by omega))
    | false =>
     rw [allF_no _ (by omega) (e2.trans hc)]
     exact Ev.neg (by decide) (Ev.now _)
theorem sSyls (l : List S93) (hl : l.length ≤ 8796093022208) : Ev (fun k => spec_l18Ok.f k l) (sylsB l) :=
 sSyls_l0 l hl l.length 0 (by omega)
theorem iSyl (x : S93) : Ev (fun k => impl_ValidSyllable.f k x.f0 x.f1 x.f2) (sylB x) := by
 unfold impl_ValidSyllable.f sylB
 simp only [within_eq, Option.bind_some]
 refine Ev.bind (iName x.f0) ?_
 cases nameB x.f0 with
 | false => exact Ev.neg (by decide) (Ev.now _)
 | true =>
  refine Ev.pos rfl ?_
  rw [Bool.true_and]
  by_cases h : (x.f0.size : Int) ≤ 6
  ·rw [decide_eq_true h, Bool.true_and]
   refine Ev.pos h ?_
   cases decide (1 ≤ x.f1 ∧ x.f1 ≤ 3) with
   | false => exact Ev.neg (by decide) (Ev.now _)
   | true => exact Ev.pos rfl (Ev.now _)
  ·rw [decide_eq_false h, Bool.false_and]
   exact Ev.neg h (Ev.now _)
theorem iSyls_l0 (l : List S93) (hl : l.length ≤ 16) (d : Nat) : ∀ (i : Nat), i + d = l.length → Ev (fun k => impl_ValidSyllables.l0 k l l (l.length : Int) i) (allF (syQ l) l.length i) := by
 induction d with
 | zero =>
  intro i h1
  refine Ev.shift ?_
  simp only [impl_ValidSyllables.l0]
  exact Ev.neg (by omega) (Ev.some (by rw [allF_end _ (by omega)]))
 | succ d ih =>
  intro i h1
  have w1 : wrap64 ((i : Int) + 1) = ((i + 1 : Nat) : Int) := by rw [wid (by omega)]; rfl
  refine Ev.shift ?_
  simp only [impl_ValidSyllables.l0, rdSy, w1]
  refine Ev.pos (by omega) (Ev.pos (by omega) (Ev.pos (by omega) (Ev.bind (iSyl _) ?_)))
  cases hb : sylB (l.getD i z93) with
  | false =>
   rw [allF_no _ (by omega) (show syQ l i = false by unfold syQ; rw [hb]; rfl)]
   exact Ev.neg (by decide) (Ev.now _)
  | true =>
   refine Ev.pos rfl ?_
   cases i with
   | zero =>
    rw [allF_yes _ (show syQ l 0 = true by unfold syQ; rw [hb]; rfl)]
    exact Ev.neg (by omega) (ih 1 (by omega))
   | succ i =>
    refine Ev.pos (by omega) ?_
    have e1 : wrap64 (((i + 1 : Nat) : Int) - 1) = (i : Int) := by rw [wid (by omega)]; omega
    rw [e1, rdSy]
    refine Ev.pos (by omega) (Ev.pos (by omega) ?_)
    have e2 : syQ l (i + 1) = Op.bytesLess (l.getD i z93).f0.toList (l.getD (i + 1) z93).f0.toList := by
     unfold syQ
     rw [hb, decide_eq_false (by omega), Bool.true_and, Bool.false_or]
     rfl
    cases hc : Op.bytesLess (l.getD i z93).f0.toList (l.getD (i + 1) z93).f0.toList with
    | true =>
     rw [allF_yes _ (e2.trans hc)]
     exact Ev.pos rfl (ih (i + 2) (by omega))
    | false =>
     rw [allF_no _ (by omega) (e2.trans hc)]
     exact Ev.neg (by decide) (Ev.now _)
theorem iSyls (l : List S93) : Ev (fun k => impl_ValidSyllables.f k l) (sylsB l) := by
 unfold impl_ValidSyllables.f sylsB
 by_cases h : (l.length : Int) > 16
 ·rw [decide_eq_false (show ¬ (l.length : Int) ≤ 16 by omega), Bool.and_false]
  exact Ev.pos h (Ev.now _)
 ·rw [decide_eq_true (show (l.length : Int) ≤ 16 by omega), Bool.and_true]
  exact Ev.neg h (iSyls_l0 l (by omega) l.length 0 (by omega))
def thQ (n : Nat) (t : List Int) (j : Nat) : Bool := decide (0 ≤ t.getD j 0 ∧ t.getD j 0 ≤ (n : Int) - 1)
theorem sComposed_l0 (l : List S93) (t : List Int) (hl : l.length ≤ 8796093022208) (ht : t.length ≤ 35184372088832) (d : Nat) : ∀ (i : Nat), i + d = t.length → Ev (fun k => spec_l18Composed.l0 k l t i) (allF (thQ l.length t) t.length i && decide ((t.length : Int) ≤ 64)) := by
 induction d with
 | zero =>
  intro i h1
  refine Ev.shift ?_
  simp only [spec_l18Composed.l0]
  exact Ev.neg (by omega) (Ev.some (by rw [allF_end _ (by omega), Bool.true_and]))
 | succ d ih =>
  intro i h1
  have w1 : wrap64 ((i : Int) + 1) = ((i + 1 : Nat) : Int) := by rw [wid (by omega)]; rfl
  have w2 : wrap64 ((l.length : Int) - 1) = (l.length : Int) - 1 := wid (by omega)
  refine Ev.shift ?_
  simp only [spec_l18Composed.l0, rd_nat, w1, w2, in_eq, Option.bind_some]
  refine Ev.pos (by omega) (Ev.pos (by omega) ?_)
  cases hb : thQ l.length t i with
  | true =>
   rw [allF_yes _ hb]
   exact Ev.pos hb (ih (i + 1) (by omega))
  | false =>
   rw [allF_no _ (by omega) hb]
   refine Ev.neg ?_ (Ev.now _)
   rw [show decide (0 ≤ t.getD i 0 ∧ t.getD i 0 ≤ (l.length : Int) - 1) = false from hb]
   decide
def thB (n : Nat) (t : List Int) : Bool := allF (thQ n t) t.length 0 && decide (1 ≤ t.length ∧ t.length ≤ 32)
theorem sTheme (l : List S93) (t : List Int) (hl : l.length ≤ 8796093022208) (ht : t.length ≤ 35184372088832) : Ev (fun k => spec_l20Theme.f k l t) (thB l.length t) := by
 unfold spec_l20Theme.f thB
 have h := sComposed_l0 l t hl ht t.length 0 (by omega)
 cases ha : allF (thQ l.length t) t.length 0 with
 | false =>
  rw [ha] at h
  exact Ev.bind h (Ev.neg (by simp) (Ev.now _))
 | true =>
  rw [ha, Bool.true_and] at h
  refine Ev.bind h ?_
  rw [Bool.true_and]
  by_cases h1 : (t.length : Int) ≤ 64
  ·refine Ev.pos (decide_eq_true h1) ?_
   by_cases h2 : (t.length : Int) ≥ 1
   ·exact Ev.pos h2 (Ev.some (by rw [Option.some_inj, decide_eq_decide]; omega))
   ·exact Ev.neg h2 (Ev.some (by rw [decide_eq_false (show ¬ (1 ≤ t.length ∧ t.length ≤ 32) by omega)]))
  ·refine Ev.neg (by rw [decide_eq_true_iff]; exact h1) (Ev.some ?_)
   rw [decide_eq_false (show ¬ (1 ≤ t.length ∧ t.length ≤ 32) by omega)]
def thCode (l : List S93) (t : List Int) (x : Int) : Int := if sylsB l = true then (if thB l.length t = true then (if 1 ≤ x ∧ x ≤ 32 then 0 else 2) else 7) else 1
theorem thCode_len {l : List S93} {t : List Int} {x : Int} (h : thCode l t x = 0) : (1 ≤ t.length ∧ t.length ≤ 32) ∧ 1 ≤ x ∧ x ≤ 32 := by
 unfold thCode at h
 split at h
 ·split at h
  ·rename_i h2
   unfold thB at h2
   rw [Bool.and_eq_true, decide_eq_true_iff] at h2
   split at h
   ·exact ⟨h2.2, by assumption⟩
   ·cases h
  ·cases h
 ·cases h
theorem thCode_two {l : List S93} {t : List Int} {x : Int} : thCode l t x = if thCode l t 1 = 0 then (if 1 ≤ x ∧ x ≤ 32 then 0 else 2) else thCode l t 1 := by
 unfold thCode
 by_cases h1 : sylsB l = true
 ·by_cases h2 : thB l.length t = true
  ·simp [h1, h2]
  ·simp [h1, h2]
 ·simp [h1]
theorem iTheme (l : List S93) (t : List Int) (x : Int) (hl : l.length ≤ 8796093022208) : Ev (fun k => impl_themeCode.f k l t x) (thCode l t x) := by
 unfold impl_themeCode.f thCode
 have hs := iSyls l
 cases v : sylsB l with
 | false =>
  rw [v] at hs
  rw [if_neg (show ¬ (false = true) by decide)]
  exact Ev.bind hs (Ev.neg (by decide) (Ev.now _))
 | true =>
  rw [v] at hs
  rw [if_pos (show true = true from rfl)]
  refine Ev.bind hs (Ev.pos rfl ?_)
  have f : Ev (fun k => impl_themeCode.j0 k x true) 7 := by
   refine Ev.shift ?_
   simp only [impl_themeCode.j0]
   exact Ev.pos trivial (Ev.now _)
  by_cases h1 : (t.length : Int) < 1
  ·rw [show thB l.length t = false by unfold thB; rw [decide_eq_false (by omega), Bool.and_false], if_neg (show ¬ (false = true) by decide)]
   exact Ev.pos h1 f
  ·refine Ev.neg h1 ?_
   by_cases h2 : (t.length : Int) > 32
   ·rw [show thB l.length t = false by unfold thB; rw [decide_eq_false (by omega), Bool.and_false], if_neg (show ¬ (false = true) by decide)]
    exact Ev.pos h2 f
   ·refine Ev.neg h2 ?_
    have w2 : wrap64 ((l.length : Int) - 1) = (l.length : Int) - 1 := wid (by omega)
    have e : (t.all fun x => decide (0 ≤ x ∧ x ≤ (l.length : Int) - 1)) = thB l.length t := by
     unfold thB
     rw [decide_eq_true (show 1 ≤ t.length ∧ t.length ≤ 32 by omega), Bool.and_true, Bool.eq_iff_iff, all_iff_get, allF_iff]
     exact ⟨fun h j hj _ => h j hj, fun h j hj => h j hj (Nat.zero_le _)⟩
    unfold impl_composedOk.f
    rw [if_pos (show (t.length : Int) ≤ 64 by omega), w2, allIn_eq, e]
    simp only [Option.bind_some]
    cases thB l.length t with
    | false =>
     rw [if_neg (show ¬ (false = true) by decide)]
     exact f
    | true =>
     rw [if_pos (show true = true from rfl)]
     refine Ev.shift ?_
     simp only [impl_themeCode.j0, within_eq, Option.bind_some]
     refine Ev.neg (by decide) ?_
     by_cases h3 : 1 ≤ x ∧ x ≤ 32
     ·rw [if_pos h3]
      exact Ev.pos (decide_eq_true h3) (Ev.now _)
     ·rw [if_neg h3]
      exact Ev.neg (by rw [decide_eq_true_iff]; exact h3) (Ev.now _)
theorem sAsk (l : List S93) (t : List Int) (hl : l.length ≤ 8796093022208) (ht : t.length ≤ 35184372088832) : Ev (fun k => spec_l20Ask.f k l t) (thCode l t 1) := by
 unfold spec_l20Ask.f thCode
 have hs := sSyls l hl
 cases v : sylsB l with
 | false =>
  rw [v] at hs
  rw [if_neg (show ¬ (false = true) by decide)]
  exact Ev.bind hs (Ev.neg (by decide) (Ev.now _))
 | true =>
  rw [v] at hs
  rw [if_pos (show true = true from rfl), if_pos (show (1 : Int) ≤ 1 ∧ (1 : Int) ≤ 32 by omega)]
  refine Ev.bind hs (Ev.pos rfl ?_)
  have hst := sTheme l t hl ht
  cases h : thB l.length t with
  | false =>
   rw [h] at hst
   rw [if_neg (show ¬ (false = true) by decide)]
   exact Ev.bind hst (Ev.neg (by decide) (Ev.now _))
  | true =>
   rw [h] at hst
   rw [if_pos (show true = true from rfl)]
   exact Ev.bind hst (Ev.pos rfl (Ev.now _))
theorem thCode_zero {l : List S93} {t : List Int} (h : thCode l t 1 = 0) : 1 ≤ t.length ∧ t.length ≤ 32 := by
 unfold thCode at h
 split at h
 ·split at h
  ·rename_i h2
   unfold thB at h2
   rw [Bool.and_eq_true, decide_eq_true_iff] at h2
   exact h2.2
  ·cases h
 ·cases h
theorem and255 (x : Int) : 0 ≤ wrap64 (Go.bits .and .u64 x 255) ∧ wrap64 (Go.bits .and .u64 x 255) ≤ 255 := by
 have e : Go.bits .and .u64 x 255 = IntKind.u64.wrap ((BitVec.ofInt 64 x &&& BitVec.ofInt 64 255).toNat : Int) := rfl
 have h : (BitVec.ofInt 64 x &&& BitVec.ofInt 64 255).toNat ≤ 255 := by
  rw [BitVec.toNat_and]
  exact Nat.le_trans Nat.and_le_right (by decide)
 generalize (BitVec.ofInt 64 x &&& BitVec.ofInt 64 255).toNat = n at e h
 have e2 : IntKind.u64.wrap (n : Int) = n := by
  unfold IntKind.wrap
  simp [IntKind.bits, IntKind.signed]
  omega
 rw [e, e2, wid (by omega)]
 omega
def bytesB (l : List Int) : Prop := ∀ j, j < l.length → 0 ≤ l.getD j 0 ∧ l.getD j 0 ≤ 255
theorem next_ok (l : List Int) (hb : bytesB l) (a s : Int) (h0 : 0 ≤ a) (h1 : a ≤ 4000000000000000000) : ∃ v s', spec_l00Src_next.f l a s = some (v, a + 1, s') ∧ 0 ≤ v ∧ v ≤ 255 := by
 unfold spec_l00Src_next.f
 rw [wid (x := a + 1) (by omega)]
 by_cases c : a < (l.length : Int)
 ·have q := hb a.toNat (by omega)
  have e : rd l a = l.getD a.toNat 0 := rfl
  rw [if_pos c, if_pos h0, if_pos (by omega), e, wid (x := l.getD a.toNat 0) (by omega)]
  exact ⟨_, _, rfl, q⟩
 ·rw [if_neg c, if_neg (by omega)]
  exact ⟨_, _, rfl, and255 _⟩
theorem pick_ok (l : List Int) (hb : bytesB l) (a s n : Int) (h0 : 0 ≤ a) (h1 : a ≤ 3000000000000000000) (hn : n ≤ 1000000) : ∃ v a' s', spec_l00Src_pick.f l a s n = some (v, a', s') ∧ 0 ≤ v ∧ (v < n ∨ v = 0) ∧ a ≤ a' ∧ a' ≤ a + 2 := by
 unfold spec_l00Src_pick.f
 by_cases c : n ≤ 1
 ·rw [if_pos c]; exact ⟨_, _, _, rfl, Int.le_refl _, .inr rfl, Int.le_refl _, by omega⟩
 rw [if_neg c]
 obtain ⟨v, s1, e1, v0, v1⟩ := next_ok l hb a s h0 (by omega)
 rw [e1]
 simp only [Option.bind_some]
 have tm : ∀ x : Int, 0 ≤ x → 0 ≤ Int.tmod x n ∧ Int.tmod x n < n := fun x hx => by
  rw [Int.tmod_eq_emod_of_nonneg hx]
  exact ⟨Int.emod_nonneg _ (by omega), Int.emod_lt_of_pos _ (by omega)⟩
 by_cases c2 : n > 200
 ·rw [if_pos c2]
  obtain ⟨v', s2, e2, v0', v1'⟩ := next_ok l hb (a + 1) s1 (by omega) (by omega)
  rw [e2]
  simp only [Option.bind_some]
  rw [if_neg (by omega), wid (x := v * 256) (by omega), wid (x := v * 256 + v') (by omega)]
  have := tm (v * 256 + v') (by omega)
  exact ⟨_, _, _, rfl, this.1, .inl this.2, by omega, by omega⟩
 ·rw [if_neg c2, if_neg (by omega)]
  have := tm v v0
  exact ⟨_, _, _, rfl, this.1, .inl this.2, by omega, by omega⟩
theorem among_ok (l : List Int) (hb : bytesB l) (a s : Int) (m : List Int) (h0 : 0 ≤ a) (h1 : a ≤ 3000000000000000000) (hm : 0 < m.length) (hm2 : m.length ≤ 1000000) : ∃ v a' s', spec_l00Src_among.f l a s m = some (v, a', s') ∧ v ∈ m ∧ a ≤ a' ∧ a' ≤ a + 2 := by
 unfold spec_l00Src_among.f
 obtain ⟨v, a', s', e, v0, v1, a0, a1⟩ := pick_ok l hb a s (m.length : Int) h0 h1 (by omega)
 rw [e]
 simp only [Option.bind_some]
 have hv : v < (m.length : Int) := by rcases v1 with h | h <;> omega
 rw [if_pos v0, if_pos hv]
 refine ⟨_, _, _, rfl, ?_, a0, a1⟩
 have : rd m v = m.getD v.toNat 0 := rfl
 rw [this, List.getD_eq_getElem?_getD, List.getElem?_eq_getElem (by omega)]
 exact List.getElem_mem _
theorem one_ok (l : List Int) (hb : bytesB l) (a s n : Int) (h0 : 0 ≤ a) (h1 : a ≤ 3000000000000000000) (hn : n ≤ 1000000) : ∃ v a' s', spec_l00Src_one.f l a s n = some (v, a', s') ∧ a ≤ a' ∧ a' ≤ a + 2 := by
 unfold spec_l00Src_one.f
 obtain ⟨v, a', s', e, v0, v1, a0, a1⟩ := pick_ok l hb a s n h0 h1 hn
 rw [e]
 exact ⟨_, _, _, rfl, a0, a1⟩
theorem chunks_count {n : Nat} {l : List Int} (hn : 1 ≤ n) : (chunks n l).length ≤ l.length := by
 unfold chunks
 rw [List.length_map, List.length_range, Nat.div_le_iff_le_mul_add_pred (by omega)]
 have : l.length ≤ n * l.length := Nat.le_mul_of_pos_left _ hn
 omega
theorem chunks_row {n : Nat} {l : List Int} {x : List Int} (hx : x ∈ chunks n l) : x.length ≤ l.length := by
 unfold chunks at hx
 obtain ⟨k, _, rfl⟩ := List.mem_map.1 hx
 unfold chunk
 rw [List.length_take, List.length_drop]; omega
theorem chunks_get {n : Nat} {l : List Int} (j : Nat) : ((chunks n l).getD j []).length ≤ l.length := by
 rw [List.getD_eq_getElem?_getD]
 by_cases h : j < (chunks n l).length
 ·rw [List.getElem?_eq_getElem h]; exact chunks_row (List.getElem_mem h)
 ·rw [List.getElem?_eq_none (by omega)]; exact Nat.zero_le _
theorem iBlocks (t : List Int) (a : Int) (ha : 1 ≤ a ∧ a ≤ 32) (ht : 1 ≤ t.length ∧ t.length ≤ 32) : impl_blocksOf.f t a = some (chunks a.toNat t) := by
 unfold impl_blocksOf.f
 rw [if_pos (by omega)]
theorem iHas_l0 (l : List Int) (n : Int) (hl : l.length ≤ 35184372088832) (d : Nat) : ∀ i : Nat, i + d = l.length → ∃ t : Int, decide (t ≥ 0) = decide (n ∈ l.drop i) ∧ Ev (fun k => slices_Index_int64_int64.l0 k l n (l.length : Int) i) t := by
 induction d with
 | zero =>
  intro i h
  refine ⟨-1, by rw [List.drop_of_length_le (by omega)]; simp, Ev.shift ?_⟩
  simp only [slices_Index_int64_int64.l0]
  exact Ev.neg (by omega) (Ev.now _)
 | succ d ih =>
  intro i h
  have e1 : l.drop i = l[i] :: l.drop (i + 1) := List.drop_eq_getElem_cons (by omega)
  by_cases c : n = l[i]
  ·refine ⟨i, by rw [e1, decide_eq_true (by omega), decide_eq_true (by rw [c]; exact List.mem_cons_self)], Ev.shift ?_⟩
   simp only [slices_Index_int64_int64.l0]
   rw [rd_get l i (by omega)]
   exact Ev.pos (by omega) (Ev.pos (by omega) (Ev.pos (by omega) (Ev.pos c (Ev.now _))))
  ·obtain ⟨t, h1, h2⟩ := ih (i + 1) (by omega)
   refine ⟨t, by rw [h1, e1, decide_eq_decide, List.mem_cons]; exact ⟨.inr, fun h => h.elim (fun e => absurd e c) id⟩, Ev.shift ?_⟩
   simp only [slices_Index_int64_int64.l0]
   rw [rd_get l i (by omega), wid (by omega)]
   exact Ev.pos (by omega) (Ev.pos (by omega) (Ev.pos (by omega) (Ev.neg c h2)))
theorem iHas (l : List Int) (n : Int) (hl : l.length ≤ 35184372088832) : Ev (fun k => slices_Contains_int64_int64.f k l n) (decide (n ∈ l)) := by
 obtain ⟨t, h1, h2⟩ := iHas_l0 l n hl l.length 0 (by omega)
 rw [List.drop_zero] at h1
 unfold slices_Contains_int64_int64.f slices_Index_int64_int64.f
 refine Ev.bind h2 (Ev.some ?_)
 rw [h1]
def ordQ (m : Nat) (o : List Int) (j : Nat) : Bool := decide (0 ≤ o.getD j 0 ∧ o.getD j 0 ≤ (m : Int) - 1) && !(decide (o.getD j 0 ∈ o.take j))
theorem iOrder_l0 (bs : List (List Int)) (o : List Int) (hb : bs.length ≤ 32) (ho : o.length ≤ 35184372088832) (d : Nat) : ∀ i : Nat, i + d = o.length → Ev (fun k => impl_orderOk_int64.l0 k bs o o (o.length : Int) i) (allF (ordQ bs.length o) o.length i) := by
 induction d with
 | zero =>
  intro i h
  refine Ev.shift ?_
  simp only [impl_orderOk_int64.l0]
  rw [allF_end _ (by omega)]
  exact Ev.neg (by omega) (Ev.now _)
 | succ d ih =>
  intro i h
  have w : wrap64 ((bs.length : Int) - 1) = (bs.length : Int) - 1 := wid (by omega)
  have w1 : wrap64 ((i : Int) + 1) = ((i + 1 : Nat) : Int) := by rw [wid (by omega)]; rfl
  have hi : impl_indexValid_int64.f bs (o.getD i 0) = some (decide (0 ≤ o.getD i 0 ∧ o.getD i 0 ≤ (bs.length : Int) - 1)) := by
   unfold impl_indexValid_int64.f; rw [within_eq, w]; rfl
  refine Ev.shift ?_
  simp only [impl_orderOk_int64.l0, rd_nat, hi, Option.bind_some, Int.toNat_natCast, w1]
  refine Ev.pos (by omega) (Ev.pos (by omega) (Ev.pos (by omega) ?_))
  by_cases c1 : 0 ≤ o.getD i 0 ∧ o.getD i 0 ≤ (bs.length : Int) - 1
  ·refine Ev.pos (decide_eq_true c1) (Ev.pos (by omega) (Ev.bind (iHas (o.take i) _ (by rw [List.length_take]; omega)) ?_))
   by_cases c2 : o.getD i 0 ∈ o.take i
   ·rw [allF_no _ (by omega) (by unfold ordQ; rw [decide_eq_true c1, decide_eq_true c2]; rfl)]
    exact Ev.pos (decide_eq_true c2) (Ev.now _)
   ·rw [allF_yes _ (by unfold ordQ; rw [decide_eq_true c1, decide_eq_false c2]; rfl)]
    exact Ev.neg (by rw [decide_eq_true_iff]; exact c2) (ih (i + 1) (by omega))
  ·rw [allF_no _ (by omega) (by unfold ordQ; rw [decide_eq_false c1]; rfl)]
   exact Ev.neg (by rw [decide_eq_true_iff]; exact c1) (Ev.now _)
def flatB (bs : List (List Int)) (o : List Int) : List Int := (o.map fun x => bs.getD x.toNat []).flatten
theorem flatB_snoc (bs : List (List Int)) (o : List Int) (i : Nat) (h : i < o.length) : flatB bs (o.take i) ++ bs.getD (o.getD i 0).toNat [] = flatB bs (o.take (i + 1)) := by
 have e : o.take (i + 1) = o.take i ++ [o[i]] := by rw [List.take_add_one, List.getElem?_eq_getElem h]; rfl
 have e2 : o.getD i 0 = o[i] := by rw [List.getD_eq_getElem?_getD, List.getElem?_eq_getElem h]; rfl
 rw [e, e2]
 unfold flatB
 rw [List.map_append, List.flatten_append]
 simp only [List.map_cons, List.map_nil, List.flatten_cons, List.flatten_nil, List.append_nil]
theorem flatB_len (t : List Int) (n : Nat) (o : List Int) (i : Nat) (ht : t.length ≤ 32) : (flatB (chunks n t) (o.take i)).length ≤ 32 * i := by
 induction i with
 | zero => simp [flatB]
 | succ i ih =>
  by_cases h : i < o.length
  ·rw [← flatB_snoc _ o i h, List.length_append]
   have := @chunks_get n t (o.getD i 0).toNat
   omega
  ·rw [List.take_of_length_le (by omega)]
   rw [List.take_of_length_le (by omega)] at ih
   omega
theorem iSwap_l0 (t : List Int) (n : Nat) (o : List Int) (ht : t.length ≤ 32) (hn : 1 ≤ n) (ho : o.length ≤ 32) (hq : ∀ j, j < o.length → ordQ (chunks n t).length o j = true) (d : Nat) : ∀ i : Nat, i + d = o.length → Ev (fun k => impl_SwapBlocks.l0 k (chunks n t) (flatB (chunks n t) (o.take i)) o (o.length : Int) i) (flatB (chunks n t) o, 0) := by
 induction d with
 | zero =>
  intro i h
  refine Ev.shift ?_
  have e : o.take i = o := List.take_of_length_le (by omega)
  simp only [impl_SwapBlocks.l0]
  rw [e]
  exact Ev.neg (by omega) (Ev.now _)
 | succ d ih =>
  intro i h
  have w1 : wrap64 ((i : Int) + 1) = ((i + 1 : Nat) : Int) := by rw [wid (by omega)]; rfl
  have hs := flatB_snoc (chunks n t) o i (by omega)
  have c := hq i (by omega)
  unfold ordQ at c
  rw [Bool.and_eq_true, decide_eq_true_iff] at c
  have h1 := flatB_len t n o i ht
  have h2 := @chunks_get n t (o.getD i 0).toNat
  refine Ev.shift ?_
  simp only [impl_SwapBlocks.l0, rd_nat, Int.toNat_natCast, w1, rd_L4, hs]
  exact Ev.pos (by omega) (Ev.pos (by omega) (Ev.pos (by omega) (Ev.pos (by omega) (Ev.pos (by omega) (Ev.pos (by omega) (ih (i + 1) (by omega)))))))
def swapR (l : List S93) (t : List Int) (a : Int) (o : List Int) : List Int × Int :=
 if thCode l t a = 0 then (if o.length = (chunks a.toNat t).length then (if allF (ordQ (chunks a.toNat t).length o) o.length 0 = true then (flatB (chunks a.toNat t) o, 0) else ([], 7)) else ([], 7)) else ([], thCode l t a)
theorem swapI (l : List S93) (t : List Int) (a : Int) (o : List Int) (hl : l.length ≤ 8796093022208) (ho : o.length ≤ 35184372088832) : Ev (fun k => impl_SwapBlocks.f k l t a o) (swapR l t a o) := by
 unfold impl_SwapBlocks.f swapR
 refine Ev.bind (iTheme l t a hl) ?_
 by_cases h : thCode l t a = 0
 ·obtain ⟨h1, h2⟩ := thCode_len h
  have hc := @chunks_count a.toNat t (by omega)
  have bad : Ev (fun k => impl_SwapBlocks.j0 k o (chunks a.toNat t) true) (([] : List Int), (7 : Int)) := by
   refine Ev.shift ?_
   simp only [impl_SwapBlocks.j0]
   exact Ev.pos trivial (Ev.now _)
  rw [if_pos h, iBlocks t a h2 h1]
  refine Ev.pos h ?_
  simp only [Option.bind_some]
  by_cases h3 : o.length = (chunks a.toNat t).length
  ·rw [if_pos h3]
   refine Ev.pos (by omega) ?_
   have hO := iOrder_l0 (chunks a.toNat t) o (by omega) ho o.length 0 (by omega)
   unfold impl_orderOk_int64.f
   refine Ev.bind hO ?_
   cases hv : allF (ordQ (chunks a.toNat t).length o) o.length 0 with
   | false => rw [if_neg (by decide)]; exact bad
   | true =>
    rw [if_pos rfl]
    refine Ev.shift ?_
    simp only [impl_SwapBlocks.j0]
    refine Ev.neg (by decide) ?_
    have := iSwap_l0 t a.toNat o h1.2 (by omega) (by omega) (fun j hj => allF_iff _ |>.1 hv j hj (Nat.zero_le _)) o.length 0 (by omega)
    rw [List.take_zero] at this
    exact this
  ·rw [if_neg h3]
   exact Ev.neg (by omega) bad
 ·rw [if_neg h]
  exact Ev.neg h (Ev.now _)
theorem cc_get (ls : List (List Int)) (hb : ∀ x ∈ ls, x.length ≤ 64) (i : Nat) : (ls.getD i []).length ≤ 64 := by
 rw [List.getD_eq_getElem?_getD]
 by_cases h : i < ls.length
 ·rw [List.getElem?_eq_getElem h]; exact hb _ (List.getElem_mem h)
 ·rw [List.getElem?_eq_none (by omega)]; exact Nat.zero_le _
theorem cc_snoc (ls : List (List Int)) (i : Nat) (h : i < ls.length) : (ls.take i).flatten ++ ls.getD i [] = (ls.take (i + 1)).flatten := by
 have e : ls.take (i + 1) = ls.take i ++ [ls[i]] := by rw [List.take_add_one, List.getElem?_eq_getElem h]; rfl
 rw [e, List.flatten_append, List.getD_eq_getElem?_getD, List.getElem?_eq_getElem h]
 simp
theorem cc_len (ls : List (List Int)) (hb : ∀ x ∈ ls, x.length ≤ 64) (i : Nat) : (ls.take i).flatten.length ≤ 64 * i := by
 induction i with
 | zero => simp
 | succ i ih =>
  by_cases h : i < ls.length
  ·rw [← cc_snoc ls i h, List.length_append]
   have := cc_get ls hb i
   omega
  ·rw [List.take_of_length_le (by omega)]
   rw [List.take_of_length_le (by omega)] at ih
   omega
theorem cc_l1 (ls : List (List Int)) (hb : ∀ x ∈ ls, x.length ≤ 64) (hl : ls.length ≤ 64) (d : Nat) : ∀ i : Nat, i + d = ls.length → Ev (fun k => slices_Concat_int64_int64.l1 k (ls.take i).flatten ls (ls.length : Int) i) ls.flatten := by
 induction d with
 | zero =>
  intro i h
  have e : ls.take i = ls := List.take_of_length_le (by omega)
  refine Ev.shift ?_
  simp only [slices_Concat_int64_int64.l1]
  rw [e]
  exact Ev.neg (by omega) (Ev.now _)
 | succ d ih =>
  intro i h
  have w1 : wrap64 ((i : Int) + 1) = ((i + 1 : Nat) : Int) := by rw [wid (by omega)]; rfl
  have h1 := cc_len ls hb i
  have h2 := cc_get ls hb i
  refine Ev.shift ?_
  simp only [slices_Concat_int64_int64.l1, Int.toNat_natCast, w1, rd_L4, cc_snoc ls i (by omega)]
  exact Ev.pos (by omega) (Ev.pos (by omega) (Ev.pos (by omega) (Ev.pos (by omega) (ih (i + 1) (by omega)))))
theorem cc_l0 (ls : List (List Int)) (hb : ∀ x ∈ ls, x.length ≤ 64) (hl : ls.length ≤ 64) (d : Nat) : ∀ (i : Nat) (s : Int), i + d = ls.length → 0 ≤ s → s ≤ 64 * i → Ev (fun k => slices_Concat_int64_int64.l0 k ls s ls (ls.length : Int) i) ls.flatten := by
 induction d with
 | zero =>
  intro i s h h1 h2
  have hG : slices_Grow_int64_int64.f [] s = some [] := by unfold slices_Grow_int64_int64.f; rw [if_pos ⟨rfl, by omega, by omega⟩]
  refine Ev.shift ?_
  simp only [slices_Concat_int64_int64.l0, hG, Option.bind_some]
  exact Ev.neg (by omega) (cc_l1 ls hb hl ls.length 0 (by omega))
 | succ d ih =>
  intro i s h h1 h2
  have w1 : wrap64 ((i : Int) + 1) = ((i + 1 : Nat) : Int) := by rw [wid (by omega)]; rfl
  have h3 := cc_get ls hb i
  have w2 : wrap64 (s + ((ls.getD i []).length : Int)) = s + ((ls.getD i []).length : Int) := wid (by omega)
  refine Ev.shift ?_
  simp only [slices_Concat_int64_int64.l0, Int.toNat_natCast, w1, rd_L4, w2]
  exact Ev.pos (by omega) (Ev.pos (by omega) (Ev.pos (by omega) (Ev.neg (by omega) (ih (i + 1) _ (by omega) (by omega) (by omega)))))
theorem cc (ls : List (List Int)) (hb : ∀ x ∈ ls, x.length ≤ 64) (hl : ls.length ≤ 64) : Ev (fun k => slices_Concat_int64_int64.f k ls) ls.flatten :=
 cc_l0 ls hb hl ls.length 0 0 (by omega) (by omega) (by omega)
def pairQ (l : List S93) (P : List (List Int)) (j : Nat) : Bool := decide ((P.getD j []).length = 2 ∧ (0 ≤ rd (P.getD j []) 0 ∧ rd (P.getD j []) 0 ≤ (l.length : Int) - 1) ∧ (0 ≤ rd (P.getD j []) 1 ∧ rd (P.getD j []) 1 ≤ (l.length : Int) - 1) ∧ rd (P.getD j []) 0 ≠ rd (P.getD j []) 1 ∧ (rd_T93 l (rd (P.getD j []) 0)).f2 = (rd_T93 l (rd (P.getD j []) 1)).f2 ∧ (0 < j → rd (P.getD (j - 1) []) 0 < rd (P.getD j []) 0))
def pairsB (l : List S93) (P : List (List Int)) : Bool := allF (pairQ l P) P.length 0 && decide (P.length ≤ 8)
theorem two_form {x : List Int} (h : x.length = 2) : x = [rd x 0, rd x 1] := by
 match x, h with
 | [a, b], _ => rfl
theorem comp_two (l : List S93) (x : List Int) (h : x.length = 2) (hl : l.length ≤ 8796093022208) : impl_composedOk.f l x = some (decide (0 ≤ rd x 0 ∧ rd x 0 ≤ (l.length : Int) - 1) && decide (0 ≤ rd x 1 ∧ rd x 1 ≤ (l.length : Int) - 1)) := by
 unfold impl_composedOk.f
 rw [if_pos (by omega), wid (by omega), allIn_eq]
 conv => lhs; rw [two_form h]
 simp
theorem iPairs_l0 (l : List S93) (hl : l.length ≤ 8796093022208) (P : List (List Int)) (hP : P.length ≤ 9000000000000000000) (d : Nat) : ∀ i : Nat, i + d = P.length → (0 < i → (P.getD (i - 1) []).length = 2) → Ev (fun k => impl_pairsOk.l0 k l P P (P.length : Int) i) (allF (pairQ l P) P.length i) := by
 induction d with
 | zero =>
  intro i h hp
  refine Ev.shift ?_
  simp only [impl_pairsOk.l0]
  rw [allF_end _ (by omega)]
  exact Ev.neg (by omega) (Ev.now _)
 | succ d ih =>
  intro i h hp
  have w1 : wrap64 ((i : Int) + 1) = ((i + 1 : Nat) : Int) := by rw [wid (by omega)]; rfl
  have hpr : 0 < i → wrap64 ((i : Int) - 1) = ((i - 1 : Nat) : Int) := fun h0 => by rw [wid (by omega)]; omega
  have no : pairQ l P i = false → allF (pairQ l P) P.length i = false := fun h => allF_no _ (by omega) h
  refine Ev.shift ?_
  simp only [impl_pairsOk.l0, rd_L4, Int.toNat_natCast, w1]
  clear w1
  refine Ev.pos (by omega) (Ev.pos (by omega) (Ev.pos (by omega) ?_))
  have ih' := ih (i + 1) (by omega)
  generalize hx : P.getD i [] = x
  by_cases c1 : x.length = 2
  ·refine Ev.pos (by omega) ?_
   rw [comp_two l x c1 hl]
   simp only [Option.bind_some]
   by_cases c2 : 0 ≤ rd x 0 ∧ rd x 0 ≤ (l.length : Int) - 1
   ·by_cases c3 : 0 ≤ rd x 1 ∧ rd x 1 ≤ (l.length : Int) - 1
    ·refine Ev.pos (by rw [decide_eq_true c2, decide_eq_true c3]; rfl) (Ev.pos (by omega) (Ev.pos (by omega) ?_))
     by_cases c4 : rd x 0 = rd x 1
     ·rw [no (by unfold pairQ; rw [hx]; exact decide_eq_false (fun h => h.2.2.2.1 c4))]
      exact Ev.pos c4 (Ev.now _)
     ·refine Ev.neg c4 (Ev.pos (by omega) (Ev.pos (by omega) (Ev.pos (by omega) (Ev.pos (by omega) ?_))))
      by_cases c5 : (rd_T93 l (rd x 0)).f2 = (rd_T93 l (rd x 1)).f2
      ·refine Ev.pos c5 ?_
       have ih2 := ih' (fun _ => by rw [Nat.add_sub_cancel, hx]; exact c1)
       by_cases c6 : 0 < i
       ·rw [hpr c6]
        have hpl := hp c6
        refine Ev.pos (by omega) (Ev.pos (by omega) (Ev.pos (by omega) ?_))
        rw [Int.toNat_natCast]
        refine Ev.pos (by omega) ?_
        by_cases c7 : rd x 0 ≤ rd (P.getD (i - 1) []) 0
        ·rw [no (by unfold pairQ; rw [hx]; exact decide_eq_false (fun h => by have := h.2.2.2.2.2 c6; omega))]
         exact Ev.pos c7 (Ev.now _)
        ·rw [allF_yes _ (show pairQ l P i = true by unfold pairQ; rw [hx]; exact decide_eq_true ⟨c1, c2, c3, c4, c5, fun _ => by omega⟩)]
         exact Ev.neg c7 ih2
       ·rw [allF_yes _ (show pairQ l P i = true by unfold pairQ; rw [hx]; exact decide_eq_true ⟨c1, c2, c3, c4, c5, fun h => absurd h c6⟩)]
        exact Ev.neg (by omega) ih2
      ·rw [no (by unfold pairQ; rw [hx]; exact decide_eq_false (fun h => c5 h.2.2.2.2.1))]
       exact Ev.neg c5 (Ev.now _)
    ·rw [no (by unfold pairQ; rw [hx]; exact decide_eq_false (fun h => c3 h.2.2.1))]
     exact Ev.neg (by rw [decide_eq_false c3, Bool.and_false]; decide) (Ev.now _)
   ·rw [no (by unfold pairQ; rw [hx]; exact decide_eq_false (fun h => c2 h.2.1))]
    exact Ev.neg (by rw [decide_eq_false c2, Bool.false_and]; decide) (Ev.now _)
  ·rw [no (by unfold pairQ; rw [hx]; exact decide_eq_false (fun h => c1 h.1))]
   exact Ev.neg (by omega) (Ev.now _)
theorem iPairs (l : List S93) (P : List (List Int)) (hl : l.length ≤ 8796093022208) (hP : P.length ≤ 9000000000000000000) : Ev (fun k => impl_pairsOk.f k l P) (pairsB l P) := by
 unfold impl_pairsOk.f pairsB
 by_cases c : P.length ≤ 8
 ·rw [decide_eq_true c, Bool.and_true]
  exact Ev.neg (by omega) (iPairs_l0 l hl P hP P.length 0 (by omega) (fun h => by omega))
 ·rw [decide_eq_false c, Bool.and_false]
  exact Ev.pos (by omega) (Ev.now _)
theorem pairsB_two {l : List S93} {P : List (List Int)} (h : pairsB l P = true) : P.length ≤ 8 ∧ ∀ r ∈ P, r.length = 2 := by
 unfold pairsB at h
 rw [Bool.and_eq_true, decide_eq_true_iff, allF_iff] at h
 refine ⟨h.2, fun r hr => ?_⟩
 obtain ⟨j, hj, rfl⟩ := List.getElem_of_mem hr
 have := h.1 j hj (Nat.zero_le _)
 unfold pairQ at this
 rw [decide_eq_true_iff, List.getD_eq_getElem?_getD, List.getElem?_eq_getElem hj] at this
 exact this.1
theorem text_ok (l : List Int) (hb : bytesB l) (a s : Int) (m : List ByteArray) (h0 : 0 ≤ a) (h1 : a ≤ 3000000000000000000) (hm : 0 < m.length) (hm2 : m.length ≤ 1000000) : ∃ v a' s', spec_l00Src_text.f l a s m = some (v, a', s') ∧ a ≤ a' ∧ a' ≤ a + 2 := by
 unfold spec_l00Src_text.f
 obtain ⟨v, a', s', e, v0, v1, a0, a1⟩ := pick_ok l hb a s (m.length : Int) h0 h1 (by omega)
 rw [e]
 simp only [Option.bind_some]
 have hv : v < (m.length : Int) := by rcases v1 with h | h <;> omega
 rw [if_pos v0, if_pos hv]
 exact ⟨_, _, _, rfl, a0, a1⟩
theorem drawOk18_l0 (l : List Int) (hb : bytesB l) (N : List ByteArray) (H : List Int) (hN : N.length = 7) (hH : H.length = 7) (d : Nat) : ∀ (i : Nat) (x : List S93) (a s : Int), i + d = 7 → x.length ≤ i → 0 ≤ a → a ≤ 100000 - 4 * (d : Int) → ∃ (r : List S93) (a' s' : Int), r.length ≤ 7 ∧ 0 ≤ a' ∧ a' ≤ 100000 ∧ Ev (fun k => spec_l18DrawOk.l0 k N H x (i : Int) l a s) (r, a', s') := by
 induction d with
 | zero =>
  intro i x a s h1 h2 h3 h4
  refine ⟨x, a, s, by omega, h3, by omega, Ev.shift ?_⟩
  simp only [spec_l18DrawOk.l0]
  exact Ev.neg (by omega) (Ev.now _)
 | succ d ih =>
  intro i x a s h1 h2 h3 h4
  have w1 : wrap64 ((i : Int) + 1) = ((i + 1 : Nat) : Int) := by rw [wid (by omega)]; rfl
  obtain ⟨v, a1, s1, e1, b1, b2⟩ := one_ok l hb a s 3 h3 (by omega) (by omega)
  cases v with
  | true =>
   obtain ⟨r, a', s', q1, q2, q3, q4⟩ := ih (i + 1) x a1 s1 (by omega) (by omega) (by omega) (by omega)
   refine ⟨r, a', s', q1, q2, q3, Ev.shift ?_⟩
   simp only [spec_l18DrawOk.l0, e1, Option.bind_some, w1]
   exact Ev.pos (by omega) (Ev.pos trivial q4)
  | false =>
   obtain ⟨v2, a2, s2, e2, _, b3, b4⟩ := among_ok l hb a1 s1 [1, 1, 2, 3] (by omega) (by omega) (by simp) (by simp)
   obtain ⟨r, a', s', q1, q2, q3, q4⟩ := ih (i + 1) (x ++ [(⟨rdOf ByteArray.empty N (i : Int), rd H (i : Int), v2⟩ : S93)]) a2 s2 (by omega) (by simp; omega) (by omega) (by omega)
   refine ⟨r, a', s', q1, q2, q3, Ev.shift ?_⟩
   simp only [spec_l18DrawOk.l0, e1, e2, Option.bind_some, w1]
   exact Ev.pos (by omega) (Ev.neg (by simp) (Ev.pos (by omega) (Ev.pos (by omega) (Ev.pos (by omega) q4))))
theorem strOne (x : Int) : (strOfNums [x]).size = 1 := by simp [strOfNums, ByteArray.size]
theorem draw18_l0 (l : List Int) (a s : Int) (n d : Nat) (hn : n ≤ 17) : ∀ (i : Nat) (x : List S93), i + d = n → x.length = i → ∃ r : List S93, r.length ≤ 17 ∧ Ev (fun k => spec_l18Draw.l0 k x (n : Int) (i : Int) l a s) (r, a, s) := by
 induction d with
 | zero =>
  intro i x h1 h2
  refine ⟨x, by omega, Ev.shift ?_⟩
  simp only [spec_l18Draw.l0]
  exact Ev.neg (by omega) (Ev.now _)
 | succ d ih =>
  intro i x h1 h2
  have w1 : wrap64 ((i : Int) + 1) = ((i + 1 : Nat) : Int) := by rw [wid (by omega)]; rfl
  obtain ⟨r, q1, q2⟩ := ih (i + 1) (x ++ [(⟨(⟨#[110]⟩ : ByteArray) ++ (strOfNums [(wrap64 (97 + (i : Int))) % 256]), wrap64 (1 + (Int.tmod (i : Int) 3)), 1⟩ : S93)]) (by omega) (by simp; omega)
  refine ⟨r, q1, Ev.shift ?_⟩
  simp only [spec_l18Draw.l0, Option.bind_some, strOne, w1]
  exact Ev.pos (by omega) (Ev.pos (by omega) (Ev.pos (by omega) q2))
theorem draw18 (l : List Int) (hb : bytesB l) (a s : Int) (h0 : 0 ≤ a) (h1 : a ≤ 1000) : ∃ (r : List S93) (a' s' : Int), r.length ≤ 20 ∧ 0 ≤ a' ∧ a' ≤ 200000 ∧ Ev (fun k => spec_l18Draw.f k l a s) (r, a', s') := by
 unfold spec_l18Draw.f spec_l18DrawOk.f
 obtain ⟨r, a1, s1, r1, b1, b2, ev⟩ := drawOk18_l0 l hb [(⟨#[100, 104, 97]⟩ : ByteArray), (⟨#[100, 104, 105, 110]⟩ : ByteArray), (⟨#[103, 101]⟩ : ByteArray), (⟨#[107, 101]⟩ : ByteArray), (⟨#[110, 97]⟩ : ByteArray), (⟨#[116, 97]⟩ : ByteArray), (⟨#[116, 105, 110]⟩ : ByteArray)] [3, 3, 1, 1, 2, 2, 2] rfl rfl 7 0 [] a s (by omega) (by simp) h0 (by omega)
 obtain ⟨v4, a4, s4, e4, _, _, b7, b8⟩ := pick_ok l hb a1 s1 20 (by omega) (by omega) (by omega)
 by_cases c0 : v4 = 0
 ·obtain ⟨v5, a5, s5, e5, b9, b10⟩ := text_ok l hb a4 s4 [(⟨#[122, 122, 122, 122, 122, 122]⟩ : ByteArray), (⟨#[122, 122, 122, 122, 122, 122, 122]⟩ : ByteArray), (⟨#[97]⟩ : ByteArray)] (by omega) (by omega) (by simp) (by simp)
  refine ⟨r ++ [(⟨v5, 1, 1⟩ : S93)], a5, s5, by simp; omega, by omega, by omega, Ev.bind ev ?_⟩
  simp only [e4, Option.bind_some]
  refine Ev.pos c0 ?_
  rw [e5]
  exact Ev.some (by simp only [Option.bind_some]; rw [if_pos (by omega)])
 by_cases c1 : v4 = 1
 ·obtain ⟨v5, a5, s5, e5, _, b9, b10⟩ := among_ok l hb a4 s4 [0, 3, 4] (by omega) (by omega) (by simp) (by simp)
  refine ⟨r ++ [(⟨(⟨#[122, 122]⟩ : ByteArray), v5, 1⟩ : S93)], a5, s5, by simp; omega, by omega, by omega, Ev.bind ev ?_⟩
  simp only [e4, Option.bind_some]
  refine Ev.neg c0 (Ev.pos c1 ?_)
  rw [e5]
  exact Ev.some (by simp only [Option.bind_some]; rw [if_pos (by omega)])
 by_cases c2 : v4 = 2
 ·obtain ⟨v5, a5, s5, e5, _, b9, b10⟩ := among_ok l hb a4 s4 [0, 8, 9] (by omega) (by omega) (by simp) (by simp)
  refine ⟨r ++ [(⟨(⟨#[122, 122]⟩ : ByteArray), 2, v5⟩ : S93)], a5, s5, by simp; omega, by omega, by omega, Ev.bind ev ?_⟩
  simp only [e4, Option.bind_some]
  refine Ev.neg c0 (Ev.neg c1 (Ev.pos c2 ?_))
  rw [e5]
  exact Ev.some (by simp only [Option.bind_some]; rw [if_pos (by omega)])
 by_cases c3 : v4 = 3
 ·obtain ⟨v5, a5, s5, e5, hv5, b9, b10⟩ := among_ok l hb a4 s4 [16, 17] (by omega) (by omega) (by simp) (by simp)
  have h5 : 0 ≤ v5 ∧ v5 ≤ 17 := by simp at hv5; omega
  obtain ⟨m, rfl⟩ := Int.eq_ofNat_of_zero_le h5.1
  obtain ⟨r5, q1, q2⟩ := draw18_l0 l a5 s5 m m (by omega) 0 [] (by omega) rfl
  refine ⟨r5, a5, s5, by omega, by omega, by omega, Ev.bind ev ?_⟩
  simp only [e4, Option.bind_some]
  refine Ev.neg c0 (Ev.neg c1 (Ev.neg c2 (Ev.pos c3 ?_)))
  simp only [e5, Option.bind_some]
  exact q2
 ·refine ⟨r, a4, s4, by omega, by omega, by omega, Ev.bind ev ?_⟩
  simp only [e4, Option.bind_some]
  exact Ev.neg c0 (Ev.neg c1 (Ev.neg c2 (Ev.neg c3 (Ev.now _))))
theorem draw20_l1 (l : List Int) (L : List S93) (a s n : Int) (hn : n ≤ 40) (d : Nat) : ∀ (x : List Int), x.length ≤ 40 → (n - x.length : Int) ≤ d → ∃ r : List Int, r.length ≤ 40 ∧ Ev (fun k => spec_l20Draw.l1 k L x n l a s) (L, r, a, s) := by
 induction d with
 | zero =>
  intro x h1 h2
  refine ⟨x, h1, Ev.shift ?_⟩
  simp only [spec_l20Draw.l1]
  exact Ev.neg (by omega) (Ev.now _)
 | succ d ih =>
  intro x h1 h2
  by_cases c : (x.length : Int) < n
  ·obtain ⟨r, q1, q2⟩ := ih (x ++ [0]) (by simp; omega) (by simp; omega)
   refine ⟨r, q1, Ev.shift ?_⟩
   simp only [spec_l20Draw.l1]
   exact Ev.pos c (Ev.pos (by omega) q2)
  ·refine ⟨x, h1, Ev.shift ?_⟩
   simp only [spec_l20Draw.l1]
   exact Ev.neg c (Ev.now _)
theorem draw20_j3 (l : List Int) (hb : bytesB l) (L : List S93) (n : Int) (x : List Int) (hx : x.length ≤ 36) (a s : Int) (h0 : 0 ≤ a) (h1 : a ≤ 400000) : ∃ (r : List Int) (a' s' : Int), r.length ≤ 40 ∧ 0 ≤ a' ∧ a' ≤ 500000 ∧ Ev (fun k => spec_l20Draw.j3 k L n x l a s) (L, r, a', s') := by
 obtain ⟨v4, a4, s4, e4, _, _, b7, b8⟩ := pick_ok l hb a s 20 (by omega) (by omega) (by omega)
 by_cases c0 : v4 = 0
 ·obtain ⟨v5, a5, s5, e5, _, b9, b10⟩ := among_ok l hb a4 s4 [(-1), n] (by omega) (by omega) (by simp) (by simp)
  refine ⟨x ++ [v5], a5, s5, by simp; omega, by omega, by omega, Ev.shift ?_⟩
  simp only [spec_l20Draw.j3, e4, e5, Option.bind_some]
  exact Ev.pos c0 (Ev.pos (by omega) (Ev.now _))
 by_cases c1 : v4 = 1
 ·obtain ⟨v5, a5, s5, e5, hv5, b9, b10⟩ := among_ok l hb a4 s4 [32, 33] (by omega) (by omega) (by simp) (by simp)
  have h5 : v5 ≤ 40 := by simp at hv5; omega
  obtain ⟨r, q1, q2⟩ := draw20_l1 l L a5 s5 v5 h5 (v5 - x.length).toNat x (by omega) (by omega)
  refine ⟨r, a5, s5, q1, by omega, by omega, Ev.shift ?_⟩
  simp only [spec_l20Draw.j3, e4, e5, Option.bind_some]
  exact Ev.neg c0 (Ev.pos c1 q2)
 by_cases c2 : v4 = 2
 ·refine ⟨x.take (0 : Int).toNat, a4, s4, by simp, by omega, by omega, Ev.shift ?_⟩
  simp only [spec_l20Draw.j3, e4, Option.bind_some]
  exact Ev.neg c0 (Ev.neg c1 (Ev.pos c2 (Ev.pos (by omega) (Ev.now _))))
 ·refine ⟨x, a4, s4, by omega, by omega, by omega, Ev.shift ?_⟩
  simp only [spec_l20Draw.j3, e4, Option.bind_some]
  exact Ev.neg c0 (Ev.neg c1 (Ev.neg c2 (Ev.now _)))
theorem draw20_j2 (l : List Int) (hb : bytesB l) (L : List S93) (n : Int) (x : List Int) (hx : x.length ≤ 18) (c : Bool) (a s : Int) (h0 : 0 ≤ a) (h1 : a ≤ 400000) : ∃ (r : List Int) (a' s' : Int), r.length ≤ 40 ∧ 0 ≤ a' ∧ a' ≤ 500000 ∧ Ev (fun k => spec_l20Draw.j2 k L n x c l a s) (L, r, a', s') := by
 cases c with
 | true =>
  obtain ⟨r, a', s', q1, q2, q3, q4⟩ := draw20_j3 l hb L n (x ++ x) (by simp; omega) a s h0 h1
  refine ⟨r, a', s', q1, q2, q3, Ev.shift ?_⟩
  simp only [spec_l20Draw.j2, spec_l00Own.f, Option.bind_some, List.nil_append, List.length_nil, Nat.zero_add]
  refine Ev.pos trivial ?_
  rw [if_pos (show x.length < 17592186044416 by omega)]
  simp only [Option.bind_some]
  exact Ev.pos (by omega) q4
 | false =>
  obtain ⟨r, a', s', q1, q2, q3, q4⟩ := draw20_j3 l hb L n x (by omega) a s h0 h1
  refine ⟨r, a', s', q1, q2, q3, Ev.shift ?_⟩
  simp only [spec_l20Draw.j2]
  exact Ev.neg (by simp) q4
theorem draw20_l0 (l : List Int) (hb : bytesB l) (L : List S93) (hL : L.length ≤ 20) (d : Nat) : ∀ (x : List Int) (v a s : Int), v < d → d ≤ 10 → x.length + d ≤ 18 → 0 ≤ a → a ≤ 300000 - 4 * (d : Int) → ∃ (r : List Int) (a' s' : Int), r.length ≤ 40 ∧ 0 ≤ a' ∧ a' ≤ 500000 ∧ Ev (fun k => spec_l20Draw.l0 k L (L.length : Int) x v l a s) (L, r, a', s') := by
 have fin : ∀ (x : List Int) (v a s : Int), x.length ≤ 18 → 0 ≤ a → a ≤ 300000 → ∃ (r : List Int) (a' s' : Int), r.length ≤ 40 ∧ 0 ≤ a' ∧ a' ≤ 500000 ∧ Ev (fun k => spec_l20Draw.j1 k L (L.length : Int) x v false l a s) (L, r, a', s') := by
  intro x v a s h1 h2 h3
  obtain ⟨v1, a1, s1, e1, b1, b2⟩ := one_ok l hb a s 4 h2 (by omega) (by omega)
  cases v1 with
  | true =>
   obtain ⟨r, a', s', q1, q2, q3, q4⟩ := draw20_j2 l hb L (L.length : Int) x h1 (decide ((x.length : Int) < 9)) a1 s1 (by omega) (by omega)
   refine ⟨r, a', s', q1, q2, q3, Ev.shift ?_⟩
   simp only [spec_l20Draw.j1, e1, Option.bind_some]
   exact Ev.neg (by simp) (Ev.pos trivial q4)
  | false =>
   obtain ⟨r, a', s', q1, q2, q3, q4⟩ := draw20_j2 l hb L (L.length : Int) x h1 false a1 s1 (by omega) (by omega)
   refine ⟨r, a', s', q1, q2, q3, Ev.shift ?_⟩
   simp only [spec_l20Draw.j1, e1, Option.bind_some]
   exact Ev.neg (by simp) (Ev.neg (by simp) q4)
 induction d with
 | zero =>
  intro x v a s h1 h2 h3 h4 h5
  obtain ⟨r, a', s', q1, q2, q3, q4⟩ := fin x v a s (by omega) h4 (by omega)
  refine ⟨r, a', s', q1, q2, q3, Ev.shift ?_⟩
  simp only [spec_l20Draw.l0]
  exact Ev.neg (by omega) q4
 | succ d ih =>
  intro x v a s h1 h2 h3 h4 h5
  by_cases c : v ≥ 0
  ·by_cases c2 : (L.length : Int) > 0
   ·obtain ⟨m, hm, hmn⟩ : ∃ m, spec_l00Min.f (L.length : Int) 4 = some m ∧ m ≤ 4 := by
     unfold spec_l00Min.f
     split
     ·exact ⟨_, rfl, by omega⟩
     ·exact ⟨_, rfl, by omega⟩
    obtain ⟨v1, a1, s1, e1, _, _, b1, b2⟩ := pick_ok l hb a s m (by omega) (by omega) (by omega)
    obtain ⟨r, a', s', q1, q2, q3, q4⟩ := ih (x ++ [v1]) (v - 1) a1 s1 (by omega) (by omega) (by simp; omega) (by omega) (by omega)
    refine ⟨r, a', s', q1, q2, q3, Ev.shift ?_⟩
    simp only [spec_l20Draw.l0]
    refine Ev.pos c (Ev.shift ?_)
    simp only [spec_l20Draw.j1, hm, e1, Option.bind_some, wid (show -9223372036854775808 ≤ v - 1 ∧ v - 1 ≤ 9223372036854775807 by omega)]
    exact Ev.pos (decide_eq_true c2) (Ev.pos (by omega) q4)
   ·obtain ⟨r, a', s', q1, q2, q3, q4⟩ := fin x v a s (by omega) h4 (by omega)
    refine ⟨r, a', s', q1, q2, q3, Ev.shift ?_⟩
    simp only [spec_l20Draw.l0]
    refine Ev.pos c ?_
    rw [decide_eq_false c2]
    exact q4
  ·obtain ⟨r, a', s', q1, q2, q3, q4⟩ := fin x v a s (by omega) h4 (by omega)
   refine ⟨r, a', s', q1, q2, q3, Ev.shift ?_⟩
   simp only [spec_l20Draw.l0]
   exact Ev.neg c q4
theorem draw20 (l : List Int) (hb : bytesB l) (a s : Int) (h0 : 0 ≤ a) (h1 : a ≤ 1000) : ∃ (L : List S93) (r : List Int) (a' s' : Int), L.length ≤ 20 ∧ r.length ≤ 40 ∧ 0 ≤ a' ∧ a' ≤ 500000 ∧ Ev (fun k => spec_l20Draw.f k l a s) (L, r, a', s') := by
 unfold spec_l20Draw.f
 obtain ⟨L, a1, s1, hL, b1, b2, ev⟩ := draw18 l hb a s h0 h1
 obtain ⟨v4, a4, s4, e4, v0, v1, b7, b8⟩ := pick_ok l hb a1 s1 8 (by omega) (by omega) (by omega)
 obtain ⟨r, a', s', q1, q2, q3, q4⟩ := draw20_l0 l hb L hL 8 [] v4 a4 s4 (by rcases v1 with h | h <;> omega) (by omega) (by simp) (by omega) (by omega)
 refine ⟨L, r, a', s', hL, q1, q2, q3, Ev.bind ev ?_⟩
 simp only [e4, Option.bind_some]
 exact q4
def uacc (l : List S93) : Int → List Int → Int
 | a, [] => a
 | a, i :: is => uacc l (wrap64 (a + (rd_T93 l i).f2)) is
theorem uacc_drop (l : List S93) (t : List Int) (a : Int) (i : Nat) (h : i < t.length) : uacc l a (t.drop i) = uacc l (wrap64 (a + (rd_T93 l (t.getD i 0)).f2)) (t.drop (i + 1)) := by
 rw [List.drop_eq_getElem_cons h, List.getD_eq_getElem?_getD, List.getElem?_eq_getElem h, Option.getD_some]
 rfl
theorem sUnits18_l0 (l : List S93) (t : List Int) (ht : t.length ≤ 35184372088832) (ha : ∀ j, j < t.length → thQ l.length t j = true) (d : Nat) : ∀ (i : Nat) (acc : Int), i + d = t.length → Ev (fun k => spec_l18Units.l0 k l t acc i) (uacc l acc (t.drop i)) := by
 induction d with
 | zero =>
  intro i acc h
  refine Ev.shift ?_
  simp only [spec_l18Units.l0]
  exact Ev.neg (by omega) (Ev.some (by rw [List.drop_of_length_le (by omega)]; rfl))
 | succ d ih =>
  intro i acc h
  have q := of_decide_eq_true (ha i (by omega))
  have w1 : wrap64 ((i : Int) + 1) = ((i + 1 : Nat) : Int) := by rw [wid (by omega)]; rfl
  have h1 := ih (i + 1) (wrap64 (acc + (rd_T93 l (t.getD i 0)).f2)) (by omega)
  rw [uacc_drop l t acc i (by omega)]
  refine Ev.shift ?_
  simp only [spec_l18Units.l0, rd_nat, w1]
  exact Ev.pos (by omega) (Ev.pos (by omega) (Ev.pos (by omega) (Ev.pos (by omega) h1)))
theorem sUnits18 (l : List S93) (t : List Int) (ht : t.length ≤ 35184372088832) (ha : ∀ j, j < t.length → thQ l.length t j = true) : Ev (fun k => spec_l18Units.f k l t) (uacc l 0 t) := by
 unfold spec_l18Units.f
 exact sUnits18_l0 l t ht ha t.length 0 0 (by omega)
theorem wrap_add (a b : Int) : wrap64 (wrap64 a + b) = wrap64 (a + b) := by unfold wrap64; omega
theorem sVarIn_l0 (t o : List Int) (ht : t.length ≤ 35184372088832) (ho : o.length ≤ 35184372088832) (d : Nat) : ∀ i : Nat, i + d = o.length → Ev (fun k => spec_IsVariation.l0 k t o i) ((o.drop i).all fun x => decide (x ∈ t)) := by
 induction d with
 | zero =>
  intro i h
  refine Ev.shift ?_
  simp only [spec_IsVariation.l0]
  refine Ev.neg (by omega) (Ev.some ?_)
  rw [List.drop_of_length_le (by omega)]; rfl
 | succ d ih =>
  intro i h
  have w1 : wrap64 ((i : Int) + 1) = ((i + 1 : Nat) : Int) := by rw [wid (by omega)]; rfl
  refine Ev.shift ?_
  simp only [spec_IsVariation.l0, w1]
  refine Ev.pos (by omega) (Ev.pos (by omega) ?_)
  rw [rd_get o i (by omega), List.drop_eq_getElem_cons (by omega), List.all_cons]
  refine Ev.bind (sHas t o[i] ht) ?_
  cases c : decide (o[i] ∈ t) with
  | true => rw [Bool.true_and]; exact Ev.pos rfl (ih (i + 1) (by omega))
  | false => rw [Bool.false_and]; exact Ev.neg (by simp) (Ev.now _)
theorem thCode_in {l : List S93} {t : List Int} {x : Int} (h : thCode l t x = 0) : ∀ j, j < t.length → thQ l.length t j = true := by
 unfold thCode at h
 split at h
 ·split at h
  ·rename_i h3
   unfold thB at h3
   rw [Bool.and_eq_true] at h3
   exact fun j hj => (allF_iff _).1 h3.1 j hj (Nat.zero_le _)
  ·cases h
 ·cases h
/-- What is a variation is called one. -/
theorem sIsVar (l : List S93) (t o : List Int) (hl : l.length ≤ 8796093022208) (ht : t.length ≤ 35184372088832) (h : thCode l t 1 = 0) (h64 : o.length ≤ 64) (hin : ∀ x ∈ o, x ∈ t) (hu : uacc l 0 o = uacc l 0 t) : Ev (fun k => spec_IsVariation.f k l t o) true := by
 have ha := thCode_in h
 have hao : ∀ j, j < o.length → thQ l.length o j = true := fun j hj => by
  have hm := hin _ (List.getElem_mem hj)
  obtain ⟨i, hi, e⟩ := List.getElem_of_mem hm
  have := ha i hi
  unfold thQ at this ⊢
  rw [List.getD_eq_getElem?_getD, List.getElem?_eq_getElem hi, Option.getD_some, e] at this
  rw [List.getD_eq_getElem?_getD, List.getElem?_eq_getElem hj, Option.getD_some]
  exact this
 have hc : (allF (thQ l.length o) o.length 0 && decide ((o.length : Int) ≤ 64)) = true := by
  rw [Bool.and_eq_true]
  exact ⟨(allF_iff _).2 fun j hj _ => hao j hj, decide_eq_true (by omega)⟩
 have hco : Ev (fun k => spec_l18Composed.f k l o) (allF (thQ l.length o) o.length 0 && decide ((o.length : Int) ≤ 64)) := by
  unfold spec_l18Composed.f
  exact sComposed_l0 l o hl (by omega) o.length 0 (by omega)
 rw [hc] at hco
 unfold spec_IsVariation.f
 refine Ev.bind (sAsk l t hl ht) (Ev.pos h (Ev.bind hco (Ev.pos rfl (Ev.bind (sUnits18 l o (by omega) hao) (Ev.bind (sUnits18 l t ht ha) (Ev.shift ?_))))))
 simp only [spec_IsVariation.j0]
 rw [hu]
 refine Ev.neg (by simp) ?_
 have := sVarIn_l0 t o ht (by omega) o.length 0 (by omega)
 rw [List.drop_zero] at this
 have e : (o.all fun x => decide (x ∈ t)) = true := List.all_eq_true.2 fun x hx => decide_eq_true (hin x hx)
 rw [e] at this
 exact this
theorem revGet (t : List Int) (q : Nat) (h : q < t.length) : t.reverse.getD q 0 = t.getD (t.length - 1 - q) 0 := by
 rw [List.getD_eq_getElem?_getD, List.getElem?_reverse h, List.getD_eq_getElem?_getD]
theorem ext_getR (a b : List Int) (hl : a.length = b.length) (h : ∀ j, j < a.length → a.getD j 0 = b.getD j 0) : a = b := by
 refine List.ext_getElem hl fun j h1 h2 => ?_
 have := h j h1
 rwa [List.getD_eq_getElem?_getD, List.getElem?_eq_getElem h1, List.getD_eq_getElem?_getD, List.getElem?_eq_getElem h2] at this
theorem getD_setR (l : List Int) (i j : Nat) (v : Int) (h : i < l.length) : (l.set i v).getD j 0 = if i = j then v else l.getD j 0 := by
 rw [List.getD_eq_getElem?_getD, List.getElem?_set, List.getD_eq_getElem?_getD]
 split
 ·rename_i e; subst e; simp [h]
 ·rfl
theorem iRev_l0 (t : List Int) (h32 : t.length ≤ 32) (n : Nat) : ∀ (i j : Nat) (acc : List Int), j ≤ i + n → i + j + 1 = t.length → acc.length = t.length → (∀ q, q < t.length → acc.getD q 0 = if q < i ∨ j < q then t.getD (t.length - 1 - q) 0 else t.getD q 0) → Ev (fun k => slices_Reverse_int64_int64.l0 k acc i j) t.reverse := by
 have stop : ∀ (i j : Nat) (acc : List Int), j ≤ i → i + j + 1 = t.length → acc.length = t.length → (∀ q, q < t.length → acc.getD q 0 = if q < i ∨ j < q then t.getD (t.length - 1 - q) 0 else t.getD q 0) → Ev (fun k => slices_Reverse_int64_int64.l0 k acc i j) t.reverse := by
  intro i j acc hji hij ha h
  refine Ev.shift ?_
  simp only [slices_Reverse_int64_int64.l0]
  refine Ev.neg (by omega) (Ev.some ?_)
  rw [ext_getR acc t.reverse (by rw [List.length_reverse]; exact ha) (fun q hq => ?_)]
  rw [h q (by omega), revGet t q (by omega)]
  split
  ·rfl
  ·rw [show t.length - 1 - q = q by omega]
 induction n with
 | zero => intro i j acc h; exact stop i j acc (by omega)
 | succ n ih =>
  intro i j acc hji hij ha h
  by_cases c : i < j
  ·have w1 : wrap64 ((i : Int) + 1) = ((i + 1 : Nat) : Int) := by rw [wid (by omega)]; rfl
   have w2 : wrap64 ((j : Int) - 1) = ((j - 1 : Nat) : Int) := by rw [wid (by omega)]; omega
   refine Ev.shift ?_
   simp only [slices_Reverse_int64_int64.l0, rd_nat, Int.toNat_natCast, w1, w2]
   refine Ev.pos (by omega) (Ev.pos (by omega) (Ev.pos (by omega) (Ev.pos (by omega) (Ev.pos (by omega) ?_))))
   refine ih (i + 1) (j - 1) _ (by omega) (by omega) (by rw [List.length_set, List.length_set]; exact ha) (fun q hq => ?_)
   rw [getD_setR _ j q _ (by rw [List.length_set]; omega), getD_setR acc i q _ (by omega), h i (by omega), h j (by omega), h q hq]
   by_cases e1 : j = q
   ·subst e1
    rw [if_pos rfl, if_neg (by omega), if_pos (by omega), show t.length - 1 - j = i by omega]
   ·rw [if_neg e1]
    by_cases e2 : i = q
    ·subst e2
     rw [if_pos rfl, if_neg (by omega), if_pos (by omega), show t.length - 1 - i = j by omega]
    ·rw [if_neg e2]
     by_cases e3 : q < i ∨ j < q
     ·rw [if_pos e3, if_pos (by omega)]
     ·rw [if_neg e3, if_neg (by omega)]
  ·exact stop i j acc (by omega) hij ha h
theorem revI (l : List S93) (t : List Int) (hl : l.length ≤ 8796093022208) : Ev (fun k => impl_ReverseTheme.f k l t) (if thCode l t 1 = 0 then t.reverse else [], thCode l t 1) := by
 unfold impl_ReverseTheme.f
 have hi := iTheme l t 1 hl
 by_cases h : thCode l t 1 = 0
 ·have h1 := thCode_zero h
  have w : wrap64 ((t.length : Int) - 1) = (t.length : Int) - 1 := wid (by omega)
  have b := iRev_l0 t h1.2 t.length 0 (t.length - 1) t (by omega) (by omega) rfl (fun q hq => by rw [if_neg (by omega)])
  have e1 : ((t.length - 1 : Nat) : Int) = (t.length : Int) - 1 := by omega
  rw [e1] at b
  rw [if_pos h]
  refine Ev.bind hi (Ev.pos h ?_)
  unfold slices_Clone_int64_int64.f slices_Reverse_int64_int64.f
  rw [if_pos (by omega)]
  simp only [Option.bind_some, w]
  rw [h]
  exact Ev.bind b (Ev.now _)
 ·rw [if_neg h]
  exact Ev.bind hi (Ev.neg h (Ev.now _))
def peQ (t : List Int) (p j : Nat) : Bool := decide (t.getD j 0 = t.getD (j - p) 0)
theorem equal_l0 (a b : List Int) (ha : a.length ≤ 32) (hab : a.length = b.length) (d : Nat) : ∀ (i : Nat), i + d = a.length → Ev (fun k => slices_Equal_int64_int64.l0 k a b (a.length : Int) i) (allF (fun j => decide (a.getD j 0 = b.getD j 0)) a.length i) := by
 induction d with
 | zero =>
  intro i h1
  refine Ev.shift ?_
  simp only [slices_Equal_int64_int64.l0]
  exact Ev.neg (by omega) (Ev.some (by rw [allF_end _ (by omega)]))
 | succ d ih =>
  intro i h1
  have w1 : wrap64 ((i : Int) + 1) = ((i + 1 : Nat) : Int) := by rw [wid (by omega)]; rfl
  refine Ev.shift ?_
  simp only [slices_Equal_int64_int64.l0, w1, rd_nat]
  refine Ev.pos (by omega) (Ev.pos (by omega) (Ev.pos (by omega) (Ev.pos (by omega) ?_)))
  by_cases h : a.getD i 0 = b.getD i 0
  ·rw [allF_yes (fun j => decide (a.getD j 0 = b.getD j 0)) (decide_eq_true h)]
   exact Ev.pos h (ih (i + 1) (by omega))
  ·rw [allF_no (fun j => decide (a.getD j 0 = b.getD j 0)) (by omega) (decide_eq_false h)]
   exact Ev.neg h (Ev.now _)
theorem iPer_eq (t : List Int) (h32 : t.length ≤ 32) (p : Nat) (hp : 1 ≤ p ∧ p ≤ t.length) : Ev (fun k => slices_Equal_int64_int64.f k (t.drop p) (t.take (t.length - p))) (allF (peQ t p) t.length p) := by
 have l1 : (t.drop p).length = t.length - p := List.length_drop
 have l2 : (t.take (t.length - p)).length = t.length - p := by rw [List.length_take]; omega
 unfold slices_Equal_int64_int64.f
 refine Ev.pos (by omega) (Ev.same (equal_l0 _ _ (by omega) (by omega) (t.drop p).length 0 (by omega)) ?_)
 rw [Bool.eq_iff_iff, allF_iff, allF_iff, l1]
 have g1 : ∀ j, (t.drop p).getD j 0 = t.getD (p + j) 0 := fun j => by rw [List.getD_eq_getElem?_getD, List.getElem?_drop, List.getD_eq_getElem?_getD]
 have g2 : ∀ j, j < t.length - p → (t.take (t.length - p)).getD j 0 = t.getD j 0 := fun j hj => by rw [List.getD_eq_getElem?_getD, List.getElem?_take, if_pos hj, List.getD_eq_getElem?_getD]
 constructor
 ·intro h j hj hpj
  have := of_decide_eq_true (h (j - p) (by omega) (Nat.zero_le _))
  rw [g1, g2 _ (by omega), show p + (j - p) = j by omega] at this
  exact decide_eq_true this
 ·intro h j hj _
  have := of_decide_eq_true (h (p + j) (by omega) (by omega))
  rw [show p + j - p = j by omega] at this
  refine decide_eq_true ?_
  rw [g1, g2 _ hj]
  exact this
theorem perI_l0 (t : List Int) (h1 : 1 ≤ t.length ∧ t.length ≤ 32) (d : Nat) : ∀ (p : Nat), p + d = t.length → 1 ≤ p → ∃ q : Nat, 1 ≤ q ∧ q ≤ t.length ∧ allF (peQ t q) t.length q = true ∧ Ev (fun k => impl_PeriodOf.l0 k t p) ((q : Int), 0) := by
 induction d with
 | zero =>
  intro p hp h
  have w : wrap64 ((t.length : Int) - p) = ((t.length - p : Nat) : Int) := by rw [wid (by omega)]; omega
  have e := iPer_eq t h1.2 p (by omega)
  have a := allF_end (peQ t p) (show t.length ≤ p by omega)
  rw [a] at e
  refine ⟨p, h, by omega, a, Ev.shift ?_⟩
  simp only [impl_PeriodOf.l0, w, Int.toNat_natCast]
  exact Ev.pos (by omega) (Ev.pos (by omega) (Ev.pos (by omega) (Ev.pos (by omega) (Ev.bind e (Ev.pos rfl (Ev.now _))))))
 | succ d ih =>
  intro p hp h
  have w : wrap64 ((t.length : Int) - p) = ((t.length - p : Nat) : Int) := by rw [wid (by omega)]; omega
  have w1 : wrap64 ((p : Int) + 1) = ((p + 1 : Nat) : Int) := by rw [wid (by omega)]; rfl
  have e := iPer_eq t h1.2 p (by omega)
  cases ha : allF (peQ t p) t.length p with
  | true =>
   rw [ha] at e
   refine ⟨p, h, by omega, ha, Ev.shift ?_⟩
   simp only [impl_PeriodOf.l0, w, Int.toNat_natCast]
   exact Ev.pos (by omega) (Ev.pos (by omega) (Ev.pos (by omega) (Ev.pos (by omega) (Ev.bind e (Ev.pos rfl (Ev.now _))))))
  | false =>
   rw [ha] at e
   obtain ⟨q, q1, q2, q3, y⟩ := ih (p + 1) (by omega) (by omega)
   refine ⟨q, q1, q2, q3, Ev.shift ?_⟩
   simp only [impl_PeriodOf.l0, w, w1, Int.toNat_natCast]
   exact Ev.pos (by omega) (Ev.pos (by omega) (Ev.pos (by omega) (Ev.pos (by omega) (Ev.bind e (Ev.neg (by decide) y)))))
theorem perI (l : List S93) (t : List Int) (hl : l.length ≤ 8796093022208) (h : thCode l t 1 = 0) : ∃ q : Nat, 1 ≤ q ∧ q ≤ t.length ∧ allF (peQ t q) t.length q = true ∧ Ev (fun k => impl_PeriodOf.f k l t) ((q : Int), 0) := by
 have h1 := thCode_zero h
 obtain ⟨q, q1, q2, q3, y⟩ := perI_l0 t h1 (t.length - 1) 1 (by omega) (Nat.le_refl _)
 unfold impl_PeriodOf.f
 exact ⟨q, q1, q2, q3, Ev.bind (iTheme l t 1 hl) (Ev.pos h y)⟩
def compB (n : Nat) (t : List Int) : Bool := allF (thQ n t) t.length 0 && decide ((t.length : Int) ≤ 64)
theorem iComposed (l : List S93) (t : List Int) (hl : l.length ≤ 8796093022208) : impl_composedOk.f l t = some (compB l.length t) := by
 have w2 : wrap64 ((l.length : Int) - 1) = (l.length : Int) - 1 := wid (by omega)
 have e : (t.all fun x => decide (0 ≤ x ∧ x ≤ (l.length : Int) - 1)) = allF (thQ l.length t) t.length 0 := by
  rw [Bool.eq_iff_iff, all_iff_get, allF_iff]
  exact ⟨fun h j hj _ => h j hj, fun h j hj => h j hj (Nat.zero_le _)⟩
 unfold impl_composedOk.f compB
 by_cases c : (t.length : Int) ≤ 64
 ·rw [if_pos c, w2, allIn_eq, e, decide_eq_true c, Bool.and_true]; rfl
 ·rw [if_neg c, decide_eq_false c, Bool.and_false]
theorem iUnits_l0 (l : List S93) (t : List Int) (ht : t.length ≤ 35184372088832) (ha : ∀ j, j < t.length → thQ l.length t j = true) (d : Nat) : ∀ (i : Nat) (acc : Int), i + d = t.length → Ev (fun k => impl_unitsOfComposed.l0 k l acc t (t.length : Int) i) (uacc l acc (t.drop i)) := by
 induction d with
 | zero =>
  intro i acc h
  refine Ev.shift ?_
  simp only [impl_unitsOfComposed.l0]
  rw [List.drop_of_length_le (by omega)]
  exact Ev.neg (by omega) (Ev.now _)
 | succ d ih =>
  intro i acc h
  have q := of_decide_eq_true (ha i (by omega))
  have w1 : wrap64 ((i : Int) + 1) = ((i + 1 : Nat) : Int) := by rw [wid (by omega)]; rfl
  have h2 := ih (i + 1) (wrap64 (acc + (rd_T93 l (t.getD i 0)).f2)) (by omega)
  rw [uacc_drop l t acc i (by omega)]
  refine Ev.shift ?_
  simp only [impl_unitsOfComposed.l0, rd_nat, w1]
  exact Ev.pos (by omega) (Ev.pos (by omega) (Ev.pos (by omega) (Ev.pos (by omega) (Ev.pos (by omega) h2))))
theorem iUnits (l : List S93) (t : List Int) (ht : t.length ≤ 35184372088832) (ha : ∀ j, j < t.length → thQ l.length t j = true) : Ev (fun k => impl_unitsOfComposed.f k l t) (uacc l 0 t) := by
 unfold impl_unitsOfComposed.f
 exact iUnits_l0 l t ht ha t.length 0 0 (by omega)
theorem uacc_perm (l : List S93) {x y : List Int} (h : x.Perm y) : ∀ a, uacc l a x = uacc l a y := by
 induction h with
 | nil => intro a; rfl
 | cons v _ ih => intro a; exact ih _
 | swap v w r =>
  intro a
  show uacc l (wrap64 (wrap64 (a + (rd_T93 l w).f2) + (rd_T93 l v).f2)) r = uacc l (wrap64 (wrap64 (a + (rd_T93 l v).f2) + (rd_T93 l w).f2)) r
  rw [wrap_add, wrap_add, Int.add_right_comm]
 | trans _ _ h1 h2 => intro a; rw [h1, h2]
theorem thQ_perm {l : List S93} {t o : List Int} (ha : ∀ j, j < t.length → thQ l.length t j = true) (hin : ∀ x ∈ o, x ∈ t) : ∀ j, j < o.length → thQ l.length o j = true := fun j hj => by
 have hm := hin _ (List.getElem_mem hj)
 obtain ⟨i, hi, e⟩ := List.getElem_of_mem hm
 have := ha i hi
 unfold thQ at this ⊢
 rw [List.getD_eq_getElem?_getD, List.getElem?_eq_getElem hi, Option.getD_some, e] at this
 rw [List.getD_eq_getElem?_getD, List.getElem?_eq_getElem hj, Option.getD_some]
 exact this
theorem comp_ok {l : List S93} {o : List Int} (ha : ∀ j, j < o.length → thQ l.length o j = true) (h : o.length ≤ 64) : compB l.length o = true := by
 unfold compB
 rw [Bool.and_eq_true]
 exact ⟨(allF_iff _).2 fun j hj _ => ha j hj, decide_eq_true (by omega)⟩
theorem iVar (l : List S93) (t o : List Int) (hl : l.length ≤ 8796093022208) (h : thCode l t 1 = 0) (hp : o.Perm t) : Ev (fun k => impl_IsVariation.f k l t o) true := by
 have h1 := thCode_zero h
 have hlen := hp.length_eq
 have ha := thCode_in h
 have hin : ∀ x ∈ o, x ∈ t := fun x hx => hp.mem_iff.1 hx
 have hao := thQ_perm ha hin
 unfold impl_IsVariation.f
 rw [iComposed l o hl, comp_ok hao (by omega)]
 simp only [Option.bind_some]
 refine Ev.bind (iTheme l t 1 hl) (Ev.pos h (Ev.pos trivial (Ev.bind (iUnits l t (by omega) ha) (Ev.bind (iUnits l o (by omega) hao) (Ev.pos (uacc_perm l hp 0).symm (Ev.some ?_))))))
 congr 1
 rw [← List.all_eq_not_any_not]
 exact List.all_eq_true.2 fun x hx => decide_eq_true (hin x hx)
theorem sVar (l : List S93) (t o : List Int) (hl : l.length ≤ 8796093022208) (h : thCode l t 1 = 0) (hp : o.Perm t) : Ev (fun k => spec_IsVariation.f k l t o) true := by
 have h1 := thCode_zero h
 have hlen := hp.length_eq
 exact sIsVar l t o hl (by omega) h (by omega) (fun x hx => hp.mem_iff.1 hx) (uacc_perm l hp 0)
theorem chunks_flat (n : Nat) (hn : 1 ≤ n) (t : List Int) : (chunks n t).flatten = t := by
 have key : ∀ (q i : Nat), t.length ≤ (i + q) * n → ((List.range' i q).map fun k => chunk n t (k * n)).flatten = t.drop (i * n) := by
  intro q
  induction q with
  | zero => intro i h; rw [List.drop_of_length_le (by simpa using h)]; rfl
  | succ q ih =>
   intro i h
   rw [List.range'_succ, List.map_cons, List.flatten_cons, ih (i + 1) (by rw [show i + 1 + q = i + (q + 1) by omega]; exact h)]
   unfold chunk
   rw [Nat.add_mul, Nat.one_mul, ← List.drop_drop, List.take_append_drop]
 unfold chunks
 rw [List.range_eq_range']
 have hq := key ((t.length + n - 1) / n) 0 (by
  have := (Nat.div_lt_iff_lt_mul (x := t.length + n - 1) (y := (t.length + n - 1) / n + 1) (by omega : 0 < n)).1 (Nat.lt_succ_self _)
  rw [Nat.add_mul] at this; rw [Nat.zero_add]; omega)
 rw [Nat.zero_mul, List.drop_zero] at hq
 exact hq
/-! an order is a permutation -/
theorem nodup_len : ∀ (m : Nat) (l : List Nat), l.Nodup → (∀ x ∈ l, x < m) → l.length ≤ m
 | 0, l, _, h => by
  cases l with
  | nil => exact Nat.le_refl _
  | cons a l => exact absurd (h a List.mem_cons_self) (Nat.not_lt_zero _)
 | m + 1, l, hn, h => by
  have h2 := nodup_len m (l.erase m) (hn.erase m) (fun x hx => by
   have := (hn.mem_erase_iff).1 hx
   have := h x this.2
   omega)
  have := List.length_erase (a := m) (l := l)
  split at this <;> omega
theorem nodup_range : ∀ (m : Nat) (l : List Nat), l.Nodup → (∀ x ∈ l, x < m) → l.length = m → l.Perm (List.range m)
 | 0, l, _, _, h => by rw [List.length_eq_zero_iff.1 h]; exact List.Perm.refl _
 | m + 1, l, hn, h, hl => by
  have hm : m ∈ l := by
   refine Classical.byContradiction fun c => ?_
   have := nodup_len m l hn (fun x hx => by
    have := h x hx
    have : x ≠ m := fun e => c (e ▸ hx)
    omega)
   omega
  have h2 := nodup_range m (l.erase m) (hn.erase m) (fun x hx => by
   have := (hn.mem_erase_iff).1 hx
   have := h x this.2
   omega) (by rw [List.length_erase_of_mem hm]; omega)
  rw [List.range_succ]
  exact (List.perm_cons_erase hm).trans ((h2.cons m).trans (List.perm_append_singleton m (List.range m)).symm)
theorem flat_perm {x y : List (List Int)} (h : x.Perm y) : x.flatten.Perm y.flatten := by
 induction h with
 | nil => exact List.Perm.refl _
 | cons v _ ih => rw [List.flatten_cons, List.flatten_cons]; exact List.Perm.append_left _ ih
 | swap v w r =>
  rw [List.flatten_cons, List.flatten_cons, List.flatten_cons, List.flatten_cons, ← List.append_assoc, ← List.append_assoc]
  exact List.Perm.append_right _ List.perm_append_comm
 | trans _ _ h1 h2 => exact h1.trans h2
theorem order_perm (bs : List (List Int)) (o : List Int) (hl : o.length = bs.length) (h : allF (ordQ bs.length o) o.length 0 = true) : (flatB bs o).Perm bs.flatten := by
 have hq : ∀ j, j < o.length → (0 ≤ o.getD j 0 ∧ o.getD j 0 ≤ (bs.length : Int) - 1) ∧ o.getD j 0 ∉ o.take j := fun j hj => by
  have := (allF_iff _).1 h j hj (Nat.zero_le _)
  unfold ordQ at this
  rw [Bool.and_eq_true, decide_eq_true_iff, Bool.not_eq_true', decide_eq_false_iff_not] at this
  exact this
 have hget : ∀ j (hj : j < o.length), o.getD j 0 = o[j] := fun j hj => by rw [List.getD_eq_getElem?_getD, List.getElem?_eq_getElem hj]; rfl
 have hn : (o.map Int.toNat).Nodup := by
  refine List.pairwise_iff_getElem.2 fun i j hi hj hij => ?_
  rw [List.length_map] at hi hj
  rw [List.getElem_map, List.getElem_map]
  intro e
  have a := (hq i hi).1
  have b := hq j hj
  rw [hget i hi] at a
  rw [hget j hj] at b
  refine b.2 ?_
  rw [show o[j] = o[i] by omega]
  have hi2 : i < (o.take j).length := by rw [List.length_take]; omega
  have : (o.take j)[i] = o[i] := List.getElem_take
  rw [← this]
  exact List.getElem_mem hi2
 have hr := nodup_range bs.length (o.map Int.toNat) hn (fun x hx => by
  obtain ⟨y, hy, rfl⟩ := List.mem_map.1 hx
  obtain ⟨j, hj, rfl⟩ := List.getElem_of_mem hy
  have a := (hq j hj).1
  rw [hget j hj] at a
  omega) (by rw [List.length_map]; exact hl)
 have e1 : flatB bs o = (((o.map Int.toNat).map fun i => bs.getD i [])).flatten := by
  unfold flatB
  rw [List.map_map]; rfl
 have e2 : (List.range bs.length).map (fun i => bs.getD i []) = bs := by
  refine List.ext_getElem (by simp) fun i h1 h2 => ?_
  rw [List.getElem_map, List.getElem_range, List.getD_eq_getElem?_getD, List.getElem?_eq_getElem h2]; rfl
 have := flat_perm (hr.map fun i => bs.getD i [])
 rw [e2] at this
 rw [e1]
 exact this
def clo : List (List Int) → Int → Int → Int
 | [], _, acc => acc
 | p :: ps, v, acc => clo ps v (if v = rd p 0 then rd p 1 else acc)
theorem mid_get (q ts : List Int) (v : Int) : (q ++ v :: ts).getD q.length 0 = v := by
 rw [List.getD_eq_getElem?_getD, List.getElem?_append_right (Nat.le_refl _), Nat.sub_self]; rfl
theorem mid_set (q ts : List Int) (v z : Int) : (q ++ v :: ts).set q.length z = q ++ z :: ts := by
 rw [List.set_append_right _ _ (Nat.le_refl _), Nat.sub_self]; rfl
theorem row_mid (p : List (List Int)) (r : List Int) (rs : List (List Int)) : (p ++ r :: rs).getD p.length [] = r := by
 rw [List.getD_eq_getElem?_getD, List.getElem?_append_right (Nat.le_refl _), Nat.sub_self]; rfl
theorem clo_in (t : List Int) (i : Nat) (v : Int) (hi : i < t.length) (ht : t.length ≤ 9000000000000000000) (q ts : List Int) (hq : q.length = i) (hP : List (List Int)) (hP8 : hP.length ≤ 9000000000000000000) (rs : List (List Int)) : ∀ (p : List (List Int)) (acc : Int), p ++ rs = hP → (∀ r ∈ rs, r.length = 2) →
  ∀ R, Ev (fun k => impl_closed.l0 k hP (q ++ clo rs v acc :: ts) t (t.length : Int) ((i + 1 : Nat) : Int)) R → Ev (fun k => impl_closed.l1 k hP (q ++ acc :: ts) (i : Int) v t (t.length : Int) (i : Int) hP (hP.length : Int) p.length) R := by
 have w0 : wrap64 ((i : Int) + 1) = ((i + 1 : Nat) : Int) := by rw [wid (by omega)]; rfl
 induction rs with
 | nil =>
  intro p acc hp hr
  rw [List.append_nil] at hp
  subst hp
  refine fun R hR => Ev.shift ?_
  simp only [impl_closed.l1, w0]
  exact Ev.neg (by omega) hR
 | cons r rs ih =>
  intro p acc hp hr
  have hl : p.length < hP.length := by rw [← hp, List.length_append, List.length_cons]; omega
  have hg : hP.getD p.length [] = r := by rw [← hp]; exact row_mid p r rs
  have h2 : r.length = 2 := hr r List.mem_cons_self
  have w1 : wrap64 ((p.length : Int) + 1) = ((p.length + 1 : Nat) : Int) := by rw [wid (by omega)]; rfl
  have lq : (q ++ acc :: ts).length = i + 1 + ts.length := by rw [List.length_append, List.length_cons]; omega
  have g2 := ih (p ++ [r]) (if v = rd r 0 then rd r 1 else acc) (by rw [← hp]; simp) (fun x hx => hr x (List.mem_cons_of_mem _ hx))
  rw [show (p ++ [r]).length = p.length + 1 by simp] at g2
  have hset : (q ++ acc :: ts).set i (rd r 1) = q ++ rd r 1 :: ts := by rw [← hq]; exact mid_set q ts acc _
  refine fun R hR => Ev.shift ?_
  have k2 := g2 R hR
  simp only [impl_closed.l1, rd_L4, rd_nat, Int.toNat_natCast, hg, w1]
  clear w0 w1 g2 ih
  refine Ev.pos (by omega) (Ev.pos (by omega) (Ev.pos (by omega) (Ev.pos (by omega) ?_)))
  by_cases c : v = rd r 0
  ·rw [if_pos c] at k2
   rw [hset]
   exact Ev.pos c.symm (Ev.pos (by omega) (Ev.pos (by omega) (Ev.pos (by omega) k2)))
  ·rw [if_neg c] at k2
   exact Ev.neg (fun e => c e.symm) k2
theorem clo_out (P : List (List Int)) (hP8 : P.length ≤ 9000000000000000000) (hr : ∀ r ∈ P, r.length = 2) (t : List Int) (ht : t.length ≤ 9000000000000000000) (ts : List Int) : ∀ (q : List Int), q ++ ts = t →
  Ev (fun k => impl_closed.l0 k P (q.map (fun v => clo P v v) ++ ts) t (t.length : Int) q.length) (t.map fun v => clo P v v) := by
 induction ts with
 | nil =>
  intro q hq
  rw [List.append_nil] at hq
  subst hq
  refine Ev.shift ?_
  simp only [impl_closed.l0, List.append_nil]
  exact Ev.neg (by omega) (Ev.now _)
 | cons v ts ih =>
  intro q hq
  have hl : q.length < t.length := by rw [← hq, List.length_append, List.length_cons]; omega
  have hv : t.getD q.length 0 = v := by rw [← hq]; exact mid_get q ts v
  have g2 := ih (q ++ [v]) (by rw [← hq]; simp)
  rw [show (q ++ [v]).length = q.length + 1 by simp, show (q ++ [v]).map (fun v => clo P v v) ++ ts = q.map (fun v => clo P v v) ++ clo P v v :: ts by simp] at g2
  have k2 := clo_in t q.length v hl ht (q.map fun v => clo P v v) ts (List.length_map ..) P hP8 P [] v rfl hr
  refine Ev.shift ?_
  simp only [impl_closed.l0, rd_nat, hv]
  exact Ev.pos (by omega) (Ev.pos (by omega) (Ev.pos (by omega) (k2 _ g2)))
def cloR (t : List Int) (P : List (List Int)) : List Int := t.map fun v => clo P v v
theorem iClosed (t : List Int) (P : List (List Int)) (ht : t.length ≤ 1000) (hP8 : P.length ≤ 9000000000000000000) (hr : ∀ r ∈ P, r.length = 2) : Ev (fun k => impl_closed.f k t P) (cloR t P) := by
 unfold impl_closed.f slices_Clone_int64_int64.f
 rw [if_pos (by omega)]
 exact clo_out P hP8 hr t (by omega) t [] rfl
def cfR (l : List S93) (t : List Int) (P : List (List Int)) : List Int × Int := if thCode l t 1 = 0 then (if pairsB l P = true then (cloR t P, 0) else ([], 7)) else ([], thCode l t 1)
theorem cfI (l : List S93) (t : List Int) (P : List (List Int)) (hl : l.length ≤ 8796093022208) (hP : P.length ≤ 9000000000000000000) : Ev (fun k => impl_ClosedForm.f k l t P) (cfR l t P) := by
 unfold impl_ClosedForm.f cfR
 refine Ev.bind (iTheme l t 1 hl) ?_
 by_cases h : thCode l t 1 = 0
 ·have h1 := (thCode_len h).1
  refine Ev.pos h (Ev.bind (iPairs l P hl hP) ?_)
  rw [if_pos h]
  by_cases h2 : pairsB l P = true
  ·obtain ⟨h3, h4⟩ := pairsB_two h2
   refine Ev.pos h2 ?_
   rw [if_pos h2]
   exact Ev.bind (iClosed t P (by omega) hP h4) (Ev.now _)
  ·refine Ev.neg h2 ?_
   rw [if_neg h2]
   exact Ev.now _
 ·refine Ev.neg h ?_
  rw [if_neg h]
  exact Ev.now _
def ocH (t : List Int) : Nat := t.length - t.length / 2
def ocL (t : List Int) (P : List (List Int)) : List Int := t ++ (cloR t P).take (ocH t) ++ t.drop (ocH t)
def ocR (l : List S93) (t : List Int) (P : List (List Int)) : List Int × Int := if thCode l t 1 = 0 then (if pairsB l P = true then (ocL t P, 0) else ([], 7)) else ([], thCode l t 1)
theorem cloR_len (t : List Int) (P : List (List Int)) : (cloR t P).length = t.length := by unfold cloR; rw [List.length_map]
theorem ocL_len (t : List Int) (P : List (List Int)) : (ocL t P).length = 2 * t.length := by
 unfold ocL ocH
 rw [List.length_append, List.length_append, List.length_take, List.length_drop, cloR_len]; omega
theorem half_eq (n : Nat) (h : n ≤ 1000) : wrap64 ((n : Int) - wrap64 ((n : Int) / 2)) = ((n - n / 2 : Nat) : Int) := by
 have e : (n : Int) / 2 = ((n / 2 : Nat) : Int) := by omega
 rw [e, wid (x := ((n / 2 : Nat) : Int)) (by omega), wid (by omega)]; omega
theorem ocI (l : List S93) (t : List Int) (P : List (List Int)) (hl : l.length ≤ 8796093022208) (hP : P.length ≤ 9000000000000000000) : Ev (fun k => impl_OpenAndClosed.f k l t P) (ocR l t P) := by
 unfold impl_OpenAndClosed.f ocR
 refine Ev.bind (cfI l t P hl hP) ?_
 unfold cfR
 by_cases h : thCode l t 1 = 0
 ·have h1 := (thCode_len h).1
  simp only [if_pos h]
  by_cases h2 : pairsB l P = true
  ·obtain ⟨h3, h4⟩ := pairsB_two h2
   have hlen := cloR_len t P
   simp only [if_pos h2, half_eq t.length (by omega), Int.toNat_natCast]
   refine Ev.pos trivial (Ev.pos (by omega) (Ev.pos (by omega) (Ev.pos (by omega) ?_)))
   have hcc := cc [t, (cloR t P).take (t.length - t.length / 2), t.drop (t.length - t.length / 2)] (fun x hx => by
    simp only [List.mem_cons, List.not_mem_nil, or_false] at hx
    rcases hx with rfl | rfl | rfl
    ·omega
    ·rw [List.length_take]; omega
    ·rw [List.length_drop]; omega) (by simp)
   rw [show [t, (cloR t P).take (t.length - t.length / 2), t.drop (t.length - t.length / 2)].flatten = ocL t P by simp [ocL, ocH]] at hcc
   exact Ev.bind hcc (Ev.now _)
  ·simp only [if_neg h2]
   exact Ev.neg (by decide) (Ev.now _)
 ·simp only [if_neg h]
  exact Ev.now _
theorem clo_units (l : List S93) (n : Nat) (hn : n = l.length) (P : List (List Int)) (v : Int) (hP : ∀ r ∈ P, (0 ≤ rd r 1 ∧ rd r 1 ≤ (n : Int) - 1) ∧ (rd_T93 l (rd r 0)).f2 = (rd_T93 l (rd r 1)).f2) : ∀ (acc : Int), (0 ≤ acc ∧ acc ≤ (n : Int) - 1) → (rd_T93 l acc).f2 = (rd_T93 l v).f2 → (0 ≤ clo P v acc ∧ clo P v acc ≤ (n : Int) - 1) ∧ (rd_T93 l (clo P v acc)).f2 = (rd_T93 l v).f2 := by
 induction P with
 | nil => intro acc h1 h2; exact ⟨h1, h2⟩
 | cons p P ih =>
  intro acc h1 h2
  have hp := hP p List.mem_cons_self
  unfold clo
  by_cases c : v = rd p 0
  ·rw [if_pos c]
   exact ih (fun r hr => hP r (List.mem_cons_of_mem _ hr)) _ hp.1 (by rw [← hp.2, ← c])
  ·rw [if_neg c]
   exact ih (fun r hr => hP r (List.mem_cons_of_mem _ hr)) _ h1 h2
theorem uacc_map (l : List S93) (f : Int → Int) : ∀ (t : List Int) (a : Int), (∀ v ∈ t, (rd_T93 l (f v)).f2 = (rd_T93 l v).f2) → uacc l a (t.map f) = uacc l a t
 | [], _, _ => rfl
 | v :: t, a, h => by
  show uacc l (wrap64 (a + (rd_T93 l (f v)).f2)) (t.map f) = uacc l (wrap64 (a + (rd_T93 l v).f2)) t
  rw [h v List.mem_cons_self]
  exact uacc_map l f t _ (fun w hw => h w (List.mem_cons_of_mem _ hw))
theorem clo_ok {l : List S93} {t : List Int} {P : List (List Int)} (h : thCode l t 1 = 0) (hP : pairsB l P = true) : (∀ j, j < (cloR t P).length → thQ l.length (cloR t P) j = true) ∧ uacc l 0 (cloR t P) = uacc l 0 t := by
 have ha := thCode_in h
 have hp : ∀ r ∈ P, (0 ≤ rd r 1 ∧ rd r 1 ≤ (l.length : Int) - 1) ∧ (rd_T93 l (rd r 0)).f2 = (rd_T93 l (rd r 1)).f2 := fun r hr => by
  unfold pairsB at hP
  rw [Bool.and_eq_true, decide_eq_true_iff, allF_iff] at hP
  obtain ⟨j, hj, rfl⟩ := List.getElem_of_mem hr
  have := hP.1 j hj (Nat.zero_le _)
  unfold pairQ at this
  rw [decide_eq_true_iff, List.getD_eq_getElem?_getD, List.getElem?_eq_getElem hj] at this
  exact ⟨this.2.2.1, this.2.2.2.2.1⟩
 have hv : ∀ v ∈ t, 0 ≤ v ∧ v ≤ (l.length : Int) - 1 := fun v hv => by
  obtain ⟨i, hi, e⟩ := List.getElem_of_mem hv
  have := of_decide_eq_true (ha i hi)
  rw [List.getD_eq_getElem?_getD, List.getElem?_eq_getElem hi, Option.getD_some, e] at this
  exact this
 have key : ∀ v ∈ t, _ := fun v h => clo_units l l.length rfl P v hp v (hv v h) rfl
 unfold cloR
 refine ⟨fun j hj => ?_, uacc_map l _ t 0 fun v h => (key v h).2⟩
 have hj2 : j < t.length := by rwa [List.length_map] at hj
 unfold thQ
 rw [List.getD_eq_getElem?_getD, List.getElem?_eq_getElem hj, List.getElem_map]
 exact decide_eq_true (key _ (List.getElem_mem hj2)).1
theorem sCU (l : List S93) (t o : List Int) (hl : l.length ≤ 8796093022208) (h : thCode l t 1 = 0) (ha : ∀ j, j < o.length → thQ l.length o j = true) (ho : o.length ≤ 64) : Ev (fun k => spec_ComposedUnits.f k l o) (uacc l 0 o, 0) := by
 have hs := sSyls l hl
 have hv : sylsB l = true := by
  unfold thCode at h
  split at h
  ·assumption
  ·cases h
 rw [hv] at hs
 have hc := sComposed_l0 l o hl (by omega) o.length 0 (by omega)
 have e : (allF (thQ l.length o) o.length 0 && decide ((o.length : Int) ≤ 64)) = true := by
  rw [Bool.and_eq_true]
  exact ⟨(allF_iff _).2 fun j hj _ => ha j hj, decide_eq_true (by omega)⟩
 rw [e] at hc
 unfold spec_ComposedUnits.f spec_l18Ask.f spec_l18Composed.f
 exact Ev.bind (Ev.bind hs (Ev.pos rfl (Ev.bind hc (Ev.pos rfl (Ev.now _))))) (Ev.pos rfl (Ev.bind (sUnits18 l o (by omega) ha) (Ev.now _)))
/-! the draws -/
theorem drawSw_l0 (l : List Int) (hb : bytesB l) (L : List S93) (t : List Int) (ln n by' : Int) (hn : 0 ≤ n ∧ n ≤ 100) (hy : 0 ≤ by' ∧ by' ≤ 1000) (a s : Int) (h0 : 0 ≤ a) (h1 : a ≤ 2000000) (d : Nat) : ∀ (x : List Int) (k0 : Int), k0 + d = n → (x.length : Int) = k0 → ∃ o : List Int, o.length ≤ 200 ∧ Ev (fun k => spec_DrawSwapBlocks.l0 k L t ln n by' x k0 l a s) (L, t, ln, o) := by
 induction d with
 | zero =>
  intro x k0 h2 h3
  obtain ⟨v, a1, s1, e1, _, _, b1, b2⟩ := pick_ok l hb a s 12 (by omega) (by omega) (by omega)
  obtain ⟨z, a2, s2, e2, _, _, _⟩ := among_ok l hb a1 s1 [-1, n, 0] (by omega) (by omega) (by simp) (by simp)
  by_cases c0 : v = 0
  ·refine ⟨x ++ [0], by rw [List.length_append, List.length_singleton]; omega, Ev.shift ?_⟩
   simp only [spec_DrawSwapBlocks.l0, e1, Option.bind_some]
   exact Ev.neg (by omega) (Ev.pos c0 (Ev.pos (by omega) (Ev.now _)))
  ·by_cases c1 : v = 1
   ·by_cases c2 : n > 0
    ·refine ⟨x.set (0 : Int).toNat z, by rw [List.length_set]; omega, Ev.shift ?_⟩
     simp only [spec_DrawSwapBlocks.l0, e1, e2, Option.bind_some]
     exact Ev.neg (by omega) (Ev.neg c0 (Ev.pos c1 (Ev.pos c2 (Ev.pos (by omega) (Ev.now _)))))
    ·refine ⟨x, by omega, Ev.shift ?_⟩
     simp only [spec_DrawSwapBlocks.l0, e1, Option.bind_some]
     exact Ev.neg (by omega) (Ev.neg c0 (Ev.pos c1 (Ev.neg c2 (Ev.now _))))
   ·refine ⟨x, by omega, Ev.shift ?_⟩
    simp only [spec_DrawSwapBlocks.l0, e1, Option.bind_some]
    exact Ev.neg (by omega) (Ev.neg c0 (Ev.neg c1 (Ev.now _)))
 | succ d ih =>
  intro x k0 h2 h3
  have w1 : wrap64 (k0 + 1) = k0 + 1 := wid (by omega)
  obtain ⟨o, o1, o2⟩ := ih (x ++ [Int.tmod (wrap64 (k0 + by')) n]) (k0 + 1) (by omega) (by rw [List.length_append, List.length_singleton]; omega)
  refine ⟨o, o1, Ev.shift ?_⟩
  simp only [spec_DrawSwapBlocks.l0, w1]
  exact Ev.pos (by omega) (Ev.neg (by omega) (Ev.pos (by omega) o2))
theorem drawSw (l : List Int) (hb : bytesB l) : ∃ (L : List S93) (t : List Int) (ln : Int) (o : List Int), L.length ≤ 20 ∧ t.length ≤ 40 ∧ (1 ≤ ln ∧ ln ≤ 32) ∧ o.length ≤ 200 ∧ Ev (fun k => spec_DrawSwapBlocks.f k l) (L, t, ln, o) := by
 obtain ⟨L, t, a1, s1, hL, ht, b1, b2, ev⟩ := draw20 l hb 0 0 (by omega) (by omega)
 obtain ⟨ln, a2, s2, e2, m2, b3, b4⟩ := among_ok l hb a1 s1 [1, 2, 2, 3, 4, 32] (by omega) (by omega) (by simp) (by simp)
 have hln : 1 ≤ ln ∧ ln ≤ 32 := by
  simp only [List.mem_cons, List.not_mem_nil, or_false] at m2
  omega
 have q1 := Int.ediv_nonneg (show 0 ≤ (t.length : Int) + ln - 1 by omega) (show 0 ≤ ln by omega)
 have q2 := Int.ediv_le_self ln (show 0 ≤ (t.length : Int) + ln - 1 by omega)
 have w : wrap64 (Int.tdiv (wrap64 (wrap64 ((t.length : Int) + ln) - 1)) ln) = ((t.length : Int) + ln - 1) / ln := by
  rw [wid (x := (t.length : Int) + ln) (by omega), wid (x := (t.length : Int) + ln - 1) (by omega), Int.tdiv_eq_ediv_of_nonneg (by omega), wid (by omega)]
 generalize ((t.length : Int) + ln - 1) / ln = n at *
 obtain ⟨m, hm, hm2⟩ : ∃ m, spec_l00Max.f 1 n = some m ∧ m ≤ 1000000 := by
  unfold spec_l00Max.f
  by_cases c : 1 > n
  ·exact ⟨1, if_pos c, by omega⟩
  ·exact ⟨n, if_neg c, by omega⟩
 obtain ⟨y, a3, s3, e3, y0, y1, b5, b6⟩ := pick_ok l hb a2 s2 m (by omega) (by omega) hm2
 have hmn : m ≤ 100 := by
  unfold spec_l00Max.f at hm
  split at hm <;> (simp only [Option.some.injEq] at hm; omega)
 obtain ⟨o, o1, o2⟩ := drawSw_l0 l hb L t ln n y ⟨q1, by omega⟩ ⟨y0, by omega⟩ a3 s3 (by omega) (by omega) n.toNat [] 0 (by omega) rfl
 refine ⟨L, t, ln, o, hL, ht, hln, o1, ?_⟩
 unfold spec_DrawSwapBlocks.f spec_l00From.f
 simp only [Option.bind_some]
 refine Ev.bind ev ?_
 simp only [e2, hm, e3, Option.bind_some, w]
 exact Ev.neg (by omega) o2
theorem drawPr_j1 (l : List Int) (hb : bytesB l) (L : List S93) (x : List (List Int)) (hx : x.length ≤ 100) (n i a s : Int) (h0 : 0 ≤ a) (h1 : a ≤ 2000000) : ∃ (P : List (List Int)) (a' s' : Int), P.length ≤ 200 ∧ Ev (fun k => spec_l20DrawPairs.j1 k L x n i false l a s) (P, a', s') := by
 obtain ⟨v, a1, s1, e1, b1, b2⟩ := one_ok l hb a s 12 (by omega) (by omega) (by omega)
 obtain ⟨p, a2, s2, e2, _, _, b3, b4⟩ := pick_ok l hb a1 s1 3 (by omega) (by omega) (by omega)
 obtain ⟨q, a3, s3, e3, _, _, b5, b6⟩ := pick_ok l hb a2 s2 9 (by omega) (by omega) (by omega)
 cases v with
 | true =>
  refine ⟨x ++ [[p, q]], a3, s3, by rw [List.length_append, List.length_singleton]; omega, Ev.shift ?_⟩
  simp only [spec_l20DrawPairs.j1, e1, e2, e3, Option.bind_some]
  exact Ev.neg (by simp) (Ev.pos trivial (Ev.pos (by omega) (Ev.now _)))
 | false =>
  refine ⟨x, a1, s1, by omega, Ev.shift ?_⟩
  simp only [spec_l20DrawPairs.j1, e1, Option.bind_some]
  exact Ev.neg (by simp) (Ev.neg (by simp) (Ev.now _))
theorem drawPr_l0 (l : List Int) (hb : bytesB l) (L : List S93) (hL : L.length ≤ 20) (d : Nat) : ∀ (x : List (List Int)) (i a s : Int), i + d = L.length → 0 ≤ i → (x.length : Int) ≤ i → 0 ≤ a → a ≤ 1000000 - 4 * (d : Int) → ∃ (P : List (List Int)) (a' s' : Int), P.length ≤ 200 ∧ Ev (fun k => spec_l20DrawPairs.l0 k L x (L.length : Int) i l a s) (P, a', s') := by
 induction d with
 | zero =>
  intro x i a s h1 h2 h3 h4 h5
  obtain ⟨P, a', s', p1, p2⟩ := drawPr_j1 l hb L x (by omega) (L.length : Int) i a s h4 (by omega)
  refine ⟨P, a', s', p1, Ev.shift ?_⟩
  simp only [spec_l20DrawPairs.l0]
  exact Ev.neg (by omega) p2
 | succ d ih =>
  intro x i a s h1 h2 h3 h4 h5
  by_cases c : i < 8
  ·obtain ⟨v, a1, s1, e1, v0, v1, b1, b2⟩ := pick_ok l hb a s (L.length : Int) (by omega) (by omega) (by omega)
   have w1 : wrap64 (i + 1) = i + 1 := wid (by omega)
   obtain ⟨P, a', s', p1, p2⟩ := ih x (i + 1) a1 s1 (by omega) (by omega) (by omega) (by omega) (by omega)
   by_cases c1 : i = v
   ·refine ⟨P, a', s', p1, Ev.shift ?_⟩
    simp only [spec_l20DrawPairs.l0]
    refine Ev.pos (by omega) (Ev.shift ?_)
    simp only [spec_l20DrawPairs.j1, e1, Option.bind_some, w1]
    exact Ev.pos (decide_eq_true c) (Ev.pos c1 p2)
   ·by_cases c2 : (rd_T93 L i).f2 = (rd_T93 L v).f2
    ·obtain ⟨P2, a2, s2, r1, r2⟩ := ih (x ++ [[i, v]]) (i + 1) a1 s1 (by omega) (by omega) (by rw [List.length_append, List.length_singleton]; omega) (by omega) (by omega)
     refine ⟨P2, a2, s2, r1, Ev.shift ?_⟩
     simp only [spec_l20DrawPairs.l0]
     refine Ev.pos (by omega) (Ev.shift ?_)
     simp only [spec_l20DrawPairs.j1, e1, Option.bind_some, w1]
     exact Ev.pos (decide_eq_true c) (Ev.neg c1 (Ev.pos (by omega) (Ev.pos (by omega) (Ev.pos (by omega) (Ev.pos (by omega) (Ev.pos c2 (Ev.pos (by omega) r2)))))))
    ·refine ⟨P, a', s', p1, Ev.shift ?_⟩
     simp only [spec_l20DrawPairs.l0]
     refine Ev.pos (by omega) (Ev.shift ?_)
     simp only [spec_l20DrawPairs.j1, e1, Option.bind_some, w1]
     exact Ev.pos (decide_eq_true c) (Ev.neg c1 (Ev.pos (by omega) (Ev.pos (by omega) (Ev.pos (by omega) (Ev.pos (by omega) (Ev.neg c2 p2))))))
  ·obtain ⟨P, a', s', p1, p2⟩ := drawPr_j1 l hb L x (by omega) (L.length : Int) i a s h4 (by omega)
   refine ⟨P, a', s', p1, Ev.shift ?_⟩
   simp only [spec_l20DrawPairs.l0]
   refine Ev.pos (by omega) ?_
   rw [decide_eq_false c]
   exact p2
theorem drawOC (l : List Int) (hb : bytesB l) : ∃ (L : List S93) (t : List Int) (P : List (List Int)), L.length ≤ 20 ∧ t.length ≤ 40 ∧ P.length ≤ 200 ∧ Ev (fun k => spec_DrawOpenAndClosed.f k l) (L, t, P) := by
 obtain ⟨L, t, a1, s1, hL, ht, b1, b2, ev⟩ := draw20 l hb 0 0 (by omega) (by omega)
 obtain ⟨P, a', s', p1, p2⟩ := drawPr_l0 l hb L hL L.length [] 0 a1 s1 (by omega) (by omega) (by simp) b1 (by omega)
 refine ⟨L, t, P, hL, ht, p1, ?_⟩
 unfold spec_DrawOpenAndClosed.f spec_l00From.f spec_l20DrawPairs.f
 simp only [Option.bind_some]
 exact Ev.bind ev (Ev.bind p2 (Ev.now _))
theorem b10_l0 (x y : List Int) (hx : x.length ≤ 1000000) (e : x = y) (d : Nat) : ∀ i : Nat, i + d = x.length → Ev (fun k => laws_b10Nums.l0 k x y i) true := by
 subst e
 induction d with
 | zero =>
  intro i h
  refine Ev.shift ?_
  simp only [laws_b10Nums.l0]
  exact Ev.neg (by omega) (Ev.now _)
 | succ d ih =>
  intro i h
  have w1 : wrap64 ((i : Int) + 1) = ((i + 1 : Nat) : Int) := by rw [wid (by omega)]; rfl
  refine Ev.shift ?_
  simp only [laws_b10Nums.l0, w1]
  repeat (first | exact ih (i + 1) (by omega) | refine Ev.pos (by omega) ?_ | refine Ev.neg (by simp; done) ?_ | refine Ev.pos rfl ?_)
theorem b10_same (x : List Int) (hx : x.length ≤ 1000000) : Ev (fun k => laws_b10Nums.f k x x) true := by
 unfold laws_b10Nums.f
 exact Ev.pos rfl (b10_l0 x x hx rfl x.length 0 (by omega))
theorem thCode_perm {l : List S93} {t o : List Int} (h : thCode l t 1 = 0) (hp : o.Perm t) : thCode l o 1 = 0 := by
 have ha := thQ_perm (thCode_in h) (fun x hx => hp.mem_iff.1 hx)
 have h1 := thCode_zero h
 have hlen := hp.length_eq
 have hv : sylsB l = true := by
  unfold thCode at h
  split at h
  ·assumption
  ·cases h
 unfold thCode
 rw [if_pos hv, if_pos (show thB l.length o = true by
  unfold thB
  rw [Bool.and_eq_true]
  exact ⟨(allF_iff _).2 fun j hj _ => ha j hj, decide_eq_true (by omega)⟩), if_pos (by omega)]
theorem ocL_parts (b : List Int) (P : List (List Int)) : (ocL b P).take b.length = b ∧ ((ocL b P).take (b.length + ocH b)).drop b.length = (cloR b P).take (ocH b) ∧ (ocL b P).drop (b.length + ocH b) = b.drop (ocH b) := by
 have hlen := cloR_len b P
 have hH : ocH b ≤ b.length := by unfold ocH; omega
 have hl : (b ++ (cloR b P).take (ocH b)).length = b.length + ocH b := by rw [List.length_append, List.length_take]; omega
 unfold ocL
 refine ⟨?_, ?_, ?_⟩
 ·rw [List.append_assoc, List.take_left' rfl]
 ·rw [List.take_left' hl, List.drop_left' rfl]
 ·rw [List.drop_left' hl]
theorem law_j6 (x1 : List Int) (hb : bytesB x1) : Ev (fun k => laws_FnThemes.j6 k x1 false) true := by
 obtain ⟨l, b, P, hL, hbl, hP, ev⟩ := drawOC x1 hb
 have evO := ocI l b P (by omega) (by omega)
 have evC := cfI l b P (by omega) (by omega)
 refine Ev.shift ?_
 simp only [laws_FnThemes.j6]
 refine Ev.neg (by simp) (Ev.bind ev (Ev.bind evO (Ev.bind evC ?_)))
 unfold ocR cfR
 by_cases h : thCode l b 1 = 0
 ·have h1 := (thCode_len h).1
  simp only [if_pos h]
  by_cases h2 : pairsB l P = true
  ·simp only [if_pos h2]
   have ha := thCode_in h
   obtain ⟨c1, c2⟩ := clo_ok h h2
   have hlen := cloR_len b P
   have evU := sCU l b b (by omega) h ha (by omega)
   have evV := sCU l b (cloR b P) (by omega) h c1 (by omega)
   rw [c2] at evV
   have hh := half_eq b.length (by omega)
   have hol := ocL_len b P
   have hH : ocH b = b.length - b.length / 2 := rfl
   rw [← hH] at hh
   have hHn : ocH b ≤ b.length := by omega
   have w2 : wrap64 (2 * (b.length : Int)) = 2 * (b.length : Int) := wid (by omega)
   have w3 : wrap64 ((b.length : Int) + (ocH b : Int)) = ((b.length + ocH b : Nat) : Int) := by rw [wid (by omega)]; omega
   obtain ⟨k1, k2, k3⟩ := ocL_parts b P
   simp only [hh, w2, w3, Int.toNat_natCast, k1, k2, k3]
   clear hh w2 w3 k1 k2 k3 c1 c2 evO evC ev
   refine Ev.pos trivial (Ev.pos trivial (Ev.bind evU (Ev.bind evV ?_)))
   exact Ev.pos (by omega) (Ev.pos (by omega) (Ev.pos rfl (Ev.pos rfl (Ev.pos rfl (Ev.pos (by omega) (Ev.pos (by omega) (Ev.bind (b10_same b (by omega)) (Ev.pos rfl (Ev.pos (by omega) (Ev.pos (by omega) (Ev.pos (by omega) (Ev.pos (by omega) (Ev.bind (b10_same _ (by rw [List.length_take]; omega)) (Ev.pos rfl (Ev.pos (by omega) (Ev.pos (by omega) (Ev.bind (b10_same _ (by rw [List.length_drop]; omega)) (Ev.now _))))))))))))))))))
  ·simp only [if_neg h2]
   exact Ev.pos trivial (Ev.neg (by decide) (Ev.pos rfl (Ev.some rfl)))
 ·simp only [if_neg h]
  exact Ev.pos trivial (Ev.pos rfl (Ev.some rfl))
theorem law_j5 (x1 : List Int) (hb : bytesB x1) (l : List S93) (t : List Int) (ln : Int) (o : List Int) (hl : l.length ≤ 20) (hln : 1 ≤ ln ∧ ln ≤ 32) (ho : o.length ≤ 200) : Ev (fun k => laws_FnThemes.j5 k x1 l t ln o) true := by
 have evS := swapI l t ln o (by omega) (by omega)
 have J := law_j6 x1 hb
 refine Ev.shift ?_
 simp only [laws_FnThemes.j5]
 refine Ev.bind evS ?_
 unfold swapR
 by_cases h : thCode l t ln = 0
 ·simp only [if_pos h]
  by_cases h2 : o.length = (chunks ln.toNat t).length
  ·simp only [if_pos h2]
   by_cases h3 : allF (ordQ (chunks ln.toNat t).length o) o.length 0 = true
   ·simp only [if_pos h3]
    have hp := order_perm (chunks ln.toNat t) o h2 h3
    rw [chunks_flat ln.toNat (by omega) t] at hp
    have hc : thCode l t 1 = 0 := by
     have := @thCode_two l t ln
     by_cases c : thCode l t 1 = 0
     ·exact c
     ·rw [if_neg c] at this; omega
    have e : (((flatB (chunks ln.toNat t) o).length : Int) != (t.length : Int)) = false := by
     rw [hp.length_eq]; exact bne_self_eq_false _
    refine Ev.pos trivial (Ev.bind (sVar l t _ (by omega) hc hp) (Ev.pos rfl ?_))
    simp only [e]
    exact J
   ·simp only [if_neg h3]
    exact Ev.neg (by decide) J
  ·simp only [if_neg h2]
   exact Ev.neg (by decide) J
 ·simp only [if_neg h]
  exact J
theorem law_l1 (x1 : List Int) (hb : bytesB x1) (l : List S93) (t : List Int) (ln : Int) (o : List Int) (hl : l.length ≤ 20) (ht : t.length ≤ 40) (hln : 1 ≤ ln ∧ ln ≤ 32) (ho : o.length ≤ 200) (q : Nat) (hq : 1 ≤ q) (ha : allF (peQ t q) t.length q = true) (d : Nat) : ∀ i : Nat, q ≤ i → i + d = t.length → Ev (fun k => laws_FnThemes.l1 k x1 l t ln o (q : Int) i) true := by
 induction d with
 | zero =>
  intro i h1 h2
  refine Ev.shift ?_
  simp only [laws_FnThemes.l1]
  exact Ev.neg (by omega) (law_j5 x1 hb l t ln o hl hln ho)
 | succ d ih =>
  intro i h1 h2
  have w1 : wrap64 ((i : Int) + 1) = ((i + 1 : Nat) : Int) := by rw [wid (by omega)]; rfl
  have w2 : wrap64 ((i : Int) - (q : Int)) = ((i - q : Nat) : Int) := by rw [wid (by omega)]; omega
  have e := of_decide_eq_true ((allF_iff _).1 ha i (by omega) h1)
  refine Ev.shift ?_
  simp only [laws_FnThemes.l1, w1, w2, rd_nat]
  exact Ev.pos (by omega) (Ev.pos (by omega) (Ev.pos (by omega) (Ev.pos (by omega) (Ev.pos e (ih (i + 1) (by omega) (by omega))))))
theorem law_l0 (x1 : List Int) (hb : bytesB x1) (l : List S93) (t : List Int) (ln : Int) (o : List Int) (hl : l.length ≤ 20) (ht : t.length ≤ 40) (hln : 1 ≤ ln ∧ ln ≤ 32) (ho : o.length ≤ 200) (h : thCode l t 1 = 0) (d : Nat) : ∀ i : Nat, i + d = (chunks ln.toNat t).length → ((chunks ln.toNat t).take i).flatten.length ≤ 40 * i → Ev (fun k => laws_FnThemes.l0 k x1 l t ln o (chunks ln.toNat t) ((chunks ln.toNat t).take i).flatten i) true := by
 have hc := @chunks_count ln.toNat t (by omega)
 induction d with
 | zero =>
  intro i h1 h2
  obtain ⟨q, q1, q2, q3, ev⟩ := perI l t (by omega) h
  have e : (decide ((q : Int) > (t.length : Int))) = false := decide_eq_false (by omega)
  have J : Ev (fun k => laws_FnThemes.j3 k x1 l t ln o (q : Int) false) true := by
   refine Ev.shift ?_
   simp only [laws_FnThemes.j3]
   exact Ev.neg (by simp) (law_l1 x1 hb l t ln o hl ht hln ho q q1 q3 (t.length - q) q (Nat.le_refl _) (by omega))
  rw [List.take_of_length_le (by omega), chunks_flat ln.toNat (by omega) t]
  refine Ev.shift ?_
  simp only [laws_FnThemes.l0]
  refine Ev.neg (by omega) (Ev.bind (b10_same t (by omega)) (Ev.pos rfl (Ev.bind ev (Ev.pos rfl (Ev.neg (show ¬ (q : Int) < 1 by omega) ?_)))))
  simp only [e]
  exact J
 | succ d ih =>
  intro i h1 h2
  have hi : i < (chunks ln.toNat t).length := by omega
  have w1 : wrap64 ((i : Int) + 1) = ((i + 1 : Nat) : Int) := by rw [wid (by omega)]; rfl
  have hrow := @chunks_get ln.toNat t i
  have hg : (chunks ln.toNat t).getD i [] = (chunks ln.toNat t)[i] := by rw [List.getD_eq_getElem?_getD, List.getElem?_eq_getElem hi]; rfl
  have e : ((chunks ln.toNat t).take (i + 1)).flatten = ((chunks ln.toNat t).take i).flatten ++ (chunks ln.toNat t).getD i [] := by
   rw [List.take_add_one, List.getElem?_eq_getElem hi, hg, List.flatten_append]
   simp
  have X := ih (i + 1) (by omega) (by rw [e, List.length_append]; omega)
  rw [e] at X
  refine Ev.shift ?_
  simp only [laws_FnThemes.l0, rd_L4, Int.toNat_natCast, w1]
  exact Ev.pos (by omega) (Ev.pos (by omega) (Ev.pos (by omega) X))
theorem FnThemes : laws_FnThemes.Pure := by
 intro x0 x1 _ _ hw0 _ _ hw1
 have hb : ∀ l : List Int, (∀ x ∈ l, (Lit.int .u8 x).wf = true) → bytesB l := fun l hl j hj => by
  have h := hl _ (List.getElem_mem hj)
  rw [List.getD_eq_getElem?_getD, List.getElem?_eq_getElem hj, Option.getD_some]
  simp [Lit.wf, IntKind.min, IntKind.max, IntKind.signed, IntKind.bits] at h
  omega
 refine Ev.rounds (g := fun k => laws_FnThemes.f k x0 x1) ?_
 obtain ⟨l, t, ln, o, hl, ht, hln, ho, ev⟩ := drawSw x0 (hb x0 hw0)
 have evR := revI l t (by omega)
 have J5 := law_j5 x1 (hb x1 hw1) l t ln o hl hln ho
 have J : ∀ c, Ev (fun k => laws_FnThemes.j0 k x0 x1 c) true := fun c => by
  cases c with
  | true =>
   refine Ev.shift ?_
   simp only [laws_FnThemes.j0]
   exact Ev.pos trivial (Ev.now _)
  | false =>
   refine Ev.shift ?_
   simp only [laws_FnThemes.j0]
   refine Ev.neg (by simp) (Ev.bind ev (Ev.bind evR ?_))
   by_cases h : thCode l t 1 = 0
   ·have hr := thCode_perm h (List.reverse_perm t)
    have evB := revI l t.reverse (by omega)
    rw [if_pos hr, hr, List.reverse_reverse] at evB
    have h32 : thCode l t ln = 0 := by rw [thCode_two, if_pos h, if_pos hln]
    have evC : Ev (fun k => impl_BlocksOf.f k l t ln) (chunks ln.toNat t, 0) := by
     unfold impl_BlocksOf.f
     rw [iBlocks t ln hln (thCode_len h).1]
     exact Ev.bind (iTheme l t ln (by omega)) (Ev.pos h32 (Ev.now _))
    have J1 : Ev (fun k => laws_FnThemes.j1 k x1 l t ln o (chunks ln.toNat t) false) true := by
     refine Ev.shift ?_
     simp only [laws_FnThemes.j1]
     exact Ev.neg (by simp) (law_l0 x1 (hb x1 hw1) l t ln o hl ht hln ho h (chunks ln.toNat t).length 0 (by omega) (by simp))
    simp only [if_pos h, h]
    exact Ev.pos trivial (Ev.bind evB (Ev.bind evC (Ev.pos rfl (Ev.bind (b10_same t (by omega)) (Ev.pos rfl (Ev.bind (iVar l t t.reverse (by omega) h (List.reverse_perm t)) (Ev.pos rfl J1)))))))
   ·simp only [if_neg h]
    exact J5
 unfold laws_FnThemes.f laws_b10Long.f
 simp only [Option.bind_some]
 generalize decide ((x0.length : Int) > 1048576) = c0
 generalize decide ((x1.length : Int) > 1048576) = c1
 cases c0 with
 | true => exact Ev.pos rfl (J true)
 | false => exact Ev.neg (by simp) (J c1)

end Go.Proofs.Ytagjleeckbnddaa.Pure
