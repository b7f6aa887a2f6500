/- The pure statement of the law FnComposed: what the Go functions compute, told by plain Lean functions, is what the law asks, for all arguments. No condition beyond the printed ones. -/
import Derived.Test.YtlcciappjbppfaaPFnComposedx10
import Derived.Test.YtlcciappjbppfaaXW
namespace Go.Proofs.Ytlcciappjbppfaa.Pure
open Go.RowKit Go.Proofs.Ytlcciappjbppfaa.PFnComposed Go.Proofs.YtlcciappjbppfaaW.PrintWords Go.Proofs.YtlcciappjbppfaaW.PrintLast Go.Proofs.YtlcciappjbppfaaW.PrintMore Go.Proofs.YtlcciappjbppfaaXW
set_option linter.unusedVariables false
set_option linter.unusedSimpArgs false
def risQ (l : List Int) (lo hi : Int) (j : Nat) : Bool := decide (lo ≤ l.getD j 0 ∧ l.getD j 0 ≤ hi) && (decide (j = 0) || decide (l.getD (j - 1) 0 < l.getD j 0))
theorem in_eq (a b c : Int) : spec_l00In.f a b c = some (decide (b ≤ a ∧ a ≤ c)) := by
  unfold spec_l00In.f; split <;> simp_all; omega
theorem within_eq (a b c : Int) : impl_within.f a b c = some (decide (b ≤ a ∧ a ≤ c)) := by
  unfold impl_within.f; split <;> simp_all; omega
def chQ (s : ByteArray) (j : Nat) : Bool := decide (97 ≤ bt s j ∧ bt s j ≤ 122) || decide (48 ≤ bt s j ∧ bt s j ≤ 57)
def nameB (s : ByteArray) : Bool := decide (1 ≤ s.size ∧ s.size ≤ 10) && (decide (97 ≤ bt s 0 ∧ bt s 0 ≤ 122) && allF (chQ s) s.size 0)
theorem small_eq (a : Int) : spec_l01Small.f a = some (decide (97 ≤ a ∧ a ≤ 122)) := by
  unfold spec_l01Small.f; split <;> simp_all; omega
theorem digit_eq (a : Int) : spec_l01Digit.f a = some (decide (48 ≤ a ∧ a ≤ 57)) := by
  unfold spec_l01Digit.f; split <;> simp_all; omega
theorem sName_l0 (s : ByteArray) (hs : s.size ≤ 10) (d : Nat) : ∀ (i : Nat), i + d = s.size → Ev (fun k => spec_l01Name.l0 k s i) (allF (chQ s) s.size i) := by
  induction d with
  | zero =>
    intro i h1
    refine Ev.shift ?_
    simp only [spec_l01Name.l0]
    exact Ev.neg (by omega) (Ev.some (by rw [allF_end _ (by omega)]))
  | succ d ih =>
    intro i h1
    have w1 : wrap64 ((i : Int) + 1) = ((i + 1 : Nat) : Int) := by rw [wid (by omega)]; rfl
    refine Ev.shift ?_
    simp only [spec_l01Name.l0, small_eq, digit_eq, Option.bind_some, w1]
    refine Ev.pos (by omega) (Ev.pos (by omega) ?_)
    by_cases a : 97 ≤ bt s i ∧ bt s i ≤ 122
    · rw [allF_yes _ (show chQ s i = true by unfold chQ; rw [decide_eq_true a]; rfl)]
      exact Ev.pos (decide_eq_true a) (ih (i + 1) (by omega))
    · refine Ev.neg (by rw [decide_eq_true_iff]; exact a) ?_
      by_cases b : 48 ≤ bt s i ∧ bt s i ≤ 57
      · rw [allF_yes _ (show chQ s i = true by unfold chQ; rw [decide_eq_true b, Bool.or_true])]
        exact Ev.pos (decide_eq_true b) (ih (i + 1) (by omega))
      · rw [allF_no _ (by omega) (show chQ s i = false by unfold chQ; rw [decide_eq_false a, decide_eq_false b]; rfl)]
        exact Ev.neg (by rw [decide_eq_true_iff]; exact b) (Ev.now _)
theorem sName (s : ByteArray) : Ev (fun k => spec_l01Name.f k s) (nameB s) := by
  unfold spec_l01Name.f nameB
  simp only [small_eq, Option.bind_some]
  have e : s.toList.length = s.size := by rw [ByteArray.toList_eq]; simp
  have f : Ev (fun k => spec_l01Name.j0 k s true) false := by
    refine Ev.shift ?_
    simp only [spec_l01Name.j0]
    exact Ev.pos trivial (Ev.now _)
  by_cases h0 : s.toList = []
  · refine Ev.pos h0 ?_
    rw [h0] at e
    rw [decide_eq_false (by simp at e; omega)]
    exact f
  · refine Ev.neg h0 ?_
    have hp : 0 < s.toList.length := List.length_pos_iff.2 h0
    by_cases h1 : (s.size : Int) > 10
    · refine Ev.pos h1 ?_
      rw [decide_eq_false (show ¬ (1 ≤ s.size ∧ s.size ≤ 10) by omega)]
      exact f
    · refine Ev.neg h1 (Ev.pos (by omega) ?_)
      rw [decide_eq_true (show 1 ≤ s.size ∧ s.size ≤ 10 by omega), Bool.true_and]
      cases hb : decide (97 ≤ bt s 0 ∧ bt s 0 ≤ 122) with
      | false => exact f
      | true =>
        refine Ev.shift ?_
        simp only [spec_l01Name.j0]
        exact Ev.neg (by decide) (sName_l0 s (by omega) s.size 0 (by omega))
theorem iName_l0 (s : ByteArray) (hs : s.size ≤ 10) (d : Nat) : ∀ (i : Nat), i + d = s.size → Ev (fun k => impl_onlyNameBytes.l0 k s (s.size : Int) i) (allF (chQ s) s.size i) := by
  induction d with
  | zero =>
    intro i h1
    refine Ev.shift ?_
    simp only [impl_onlyNameBytes.l0]
    exact Ev.neg (by omega) (Ev.some (by rw [allF_end _ (by omega)]))
  | succ d ih =>
    intro i h1
    have w1 : wrap64 ((i : Int) + 1) = ((i + 1 : Nat) : Int) := by rw [wid (by omega)]; rfl
    refine Ev.shift ?_
    simp only [impl_onlyNameBytes.l0, w1]
    refine Ev.pos (by omega) (Ev.pos (by omega) (Ev.pos (by omega) ?_))
    by_cases a : 97 ≤ bt s i ∧ bt s i ≤ 122
    · rw [allF_yes _ (show chQ s i = true by unfold chQ; rw [decide_eq_true a]; rfl)]
      exact Ev.neg (by omega) (Ev.neg (by omega) (ih (i + 1) (by omega)))
    · by_cases b : 48 ≤ bt s i ∧ bt s i ≤ 57
      · rw [allF_yes _ (show chQ s i = true by unfold chQ; rw [decide_eq_true b, Bool.or_true])]
        exact Ev.pos (by omega) (Ev.neg (by omega) (Ev.neg (by omega) (ih (i + 1) (by omega))))
      · rw [allF_no _ (by omega) (show chQ s i = false by unfold chQ; rw [decide_eq_false a, decide_eq_false b]; rfl)]
        by_cases c : bt s i < 97
        · refine Ev.pos c ?_
          by_cases c2 : bt s i < 48
          · exact Ev.pos c2 (Ev.now _)
          · exact Ev.neg c2 (Ev.pos (by omega) (Ev.now _))
        · exact Ev.neg c (Ev.pos (by omega) (Ev.neg (by omega) (Ev.pos (by omega) (Ev.now _))))
theorem iName (s : ByteArray) : Ev (fun k => impl_IsName.f k s) (nameB s) := by
  unfold impl_IsName.f nameB impl_onlyNameBytes.f
  by_cases h0 : (s.size : Int) < 1
  · rw [decide_eq_false (show ¬ (1 ≤ s.size ∧ s.size ≤ 10) by omega)]
    exact Ev.pos h0 (Ev.now _)
  · refine Ev.neg h0 ?_
    by_cases h1 : (s.size : Int) > 10
    · rw [decide_eq_false (show ¬ (1 ≤ s.size ∧ s.size ≤ 10) by omega)]
      exact Ev.pos h1 (Ev.now _)
    · rw [decide_eq_true (show 1 ≤ s.size ∧ s.size ≤ 10 by omega), Bool.true_and]
      refine Ev.neg h1 (Ev.pos (by omega) ?_)
      by_cases a : bt s 0 < 97
      · rw [decide_eq_false (show ¬ (97 ≤ bt s 0 ∧ bt s 0 ≤ 122) by omega)]
        exact Ev.pos a (Ev.now _)
      · refine Ev.neg a ?_
        by_cases b : bt s 0 > 122
        · rw [decide_eq_false (show ¬ (97 ≤ bt s 0 ∧ bt s 0 ≤ 122) by omega)]
          exact Ev.pos b (Ev.now _)
        · rw [decide_eq_true (show 97 ≤ bt s 0 ∧ bt s 0 ≤ 122 by omega), Bool.true_and]
          exact Ev.neg b (Ev.bind (iName_l0 s (by omega) s.size 0 (by omega)) (Ev.now _))
def sylB (x : S49) : Bool := nameB x.f0 && (decide ((x.f0.size : Int) ≤ 6) && (decide (1 ≤ x.f1 ∧ x.f1 ≤ 3) && decide (1 ≤ x.f2 ∧ x.f2 ≤ 8)))
theorem dec_and (p q : Prop) [Decidable p] [Decidable q] : (decide p && decide q) = decide (p ∧ q) := by
  by_cases p <;> by_cases q <;> simp [*]
theorem sSyl (x : S49) : Ev (fun k => spec_l18One_at.f k x.f0 x.f1 x.f2) (sylB x) := by
  unfold spec_l18One_at.f
  refine Ev.bind (sName x.f0) (Ev.same (Ev.now _) ?_)
  unfold sylB
  rw [dec_and, dec_and]
theorem rdSy (l : List S49) (i : Nat) : rd_T49 l (i : Int) = l.getD i z49 := by
  unfold rd_T49
  rw [Int.toNat_natCast]
def syQ (l : List S49) (j : Nat) : Bool := sylB (l.getD j z49) && (decide (j = 0) || Op.bytesLess (l.getD (j - 1) z49).f0.toList (l.getD j z49).f0.toList)
def sylsB (l : List S49) : Bool := allF (syQ l) l.length 0 && decide ((l.length : Int) ≤ 16)
theorem sSyls_l0 (l : List S49) (hl : l.length ≤ 8796093022208) (d : Nat) : ∀ (i : Nat), i + d = l.length → Ev (fun k => spec_l18Ok.l0 k l i) (allF (syQ l) l.length i && decide ((l.length : Int) ≤ 16)) := by
  induction d with
  | zero =>
    intro i h1
    refine Ev.shift ?_
    simp only [spec_l18Ok.l0]
    exact Ev.neg (by omega) (Ev.some (by rw [allF_end _ (by omega), Bool.true_and]))
  | succ d ih =>
    intro i h1
    have w1 : wrap64 ((i : Int) + 1) = ((i + 1 : Nat) : Int) := by rw [wid (by omega)]; rfl
    refine Ev.shift ?_
    simp only [spec_l18Ok.l0, rdSy, w1]
    refine Ev.pos (by omega) (Ev.pos (by omega) (Ev.bind (sSyl _) ?_))
    cases hb : sylB (l.getD i z49) with
    | false =>
      rw [allF_no _ (by omega) (show syQ l i = false by unfold syQ; rw [hb]; rfl)]
      exact Ev.neg (by decide) (Ev.now _)
    | true =>
      refine Ev.pos rfl ?_
      cases i with
      | zero =>
        rw [allF_yes _ (show syQ l 0 = true by unfold syQ; rw [hb]; rfl)]
        exact Ev.neg (by omega) (ih 1 (by omega))
      | succ i =>
        refine Ev.pos (by omega) ?_
        have e1 : wrap64 (((i + 1 : Nat) : Int) - 1) = (i : Int) := by rw [wid (by omega)]; omega
        rw [e1, rdSy]
        refine Ev.pos (by omega) (Ev.pos (by omega) ?_)
        have e2 : syQ l (i + 1) = Op.bytesLess (l.getD i z49).f0.toList (l.getD (i + 1) z49).f0.toList := by
          unfold syQ
          rw [hb, decide_eq_false (by omega), Bool.true_and, Bool.false_or]
          rfl
        cases hc : Op.bytesLess (l.getD i z49).f0.toList (l.getD (i + 1) z49).f0.toList with
        | true =>
          rw [allF_yes _ (e2.trans hc)]
          exact Ev.pos rfl (ih (i + 2) (by omega))
        | false =>
          rw [allF_no _ (by omega) (e2.trans hc)]
          exact Ev.neg (by decide) (Ev.now _)
theorem sSyls (l : List S49) (hl : l.length ≤ 8796093022208) : Ev (fun k => spec_l18Ok.f k l) (sylsB l) :=
  sSyls_l0 l hl l.length 0 (by omega)
theorem iSyl (x : S49) : Ev (fun k => impl_ValidSyllable.f k x.f0 x.f1 x.f2) (sylB x) := by
  unfold impl_ValidSyllable.f sylB
  simp only [within_eq, Option.bind_some]
  refine Ev.bind (iName x.f0) ?_
  cases nameB x.f0 with
  | false => exact Ev.neg (by decide) (Ev.now _)
  | true =>
    refine Ev.pos rfl ?_
    rw [Bool.true_and]
    by_cases h : (x.f0.size : Int) ≤ 6
    · rw [decide_eq_true h, Bool.true_and]
      refine Ev.pos h ?_
      cases decide (1 ≤ x.f1 ∧ x.f1 ≤ 3) with
      | false => exact Ev.neg (by decide) (Ev.now _)
      | true => exact Ev.pos rfl (Ev.now _)
    · rw [decide_eq_false h, Bool.false_and]
      exact Ev.neg h (Ev.now _)
theorem iSyls_l0 (l : List S49) (hl : l.length ≤ 16) (d : Nat) : ∀ (i : Nat), i + d = l.length → Ev (fun k => impl_ValidSyllables.l0 k l l (l.length : Int) i) (allF (syQ l) l.length i) := by
  induction d with
  | zero =>
    intro i h1
    refine Ev.shift ?_
    simp only [impl_ValidSyllables.l0]
    exact Ev.neg (by omega) (Ev.some (by rw [allF_end _ (by omega)]))
  | succ d ih =>
    intro i h1
    have w1 : wrap64 ((i : Int) + 1) = ((i + 1 : Nat) : Int) := by rw [wid (by omega)]; rfl
    refine Ev.shift ?_
    simp only [impl_ValidSyllables.l0, rdSy, w1]
    refine Ev.pos (by omega) (Ev.pos (by omega) (Ev.pos (by omega) (Ev.bind (iSyl _) ?_)))
    cases hb : sylB (l.getD i z49) with
    | false =>
      rw [allF_no _ (by omega) (show syQ l i = false by unfold syQ; rw [hb]; rfl)]
      exact Ev.neg (by decide) (Ev.now _)
    | true =>
      refine Ev.pos rfl ?_
      cases i with
      | zero =>
        rw [allF_yes _ (show syQ l 0 = true by unfold syQ; rw [hb]; rfl)]
        exact Ev.neg (by omega) (ih 1 (by omega))
      | succ i =>
        refine Ev.pos (by omega) ?_
        have e1 : wrap64 (((i + 1 : Nat) : Int) - 1) = (i : Int) := by rw [wid (by omega)]; omega
        rw [e1, rdSy]
        refine Ev.pos (by omega) (Ev.pos (by omega) ?_)
        have e2 : syQ l (i + 1) = Op.bytesLess (l.getD i z49).f0.toList (l.getD (i + 1) z49).f0.toList := by
          unfold syQ
          rw [hb, decide_eq_false (by omega), Bool.true_and, Bool.false_or]
          rfl
        cases hc : Op.bytesLess (l.getD i z49).f0.toList (l.getD (i + 1) z49).f0.toList with
        | true =>
          rw [allF_yes _ (e2.trans hc)]
          exact Ev.pos rfl (ih (i + 2) (by omega))
        | false =>
          rw [allF_no _ (by omega) (e2.trans hc)]
          exact Ev.neg (by decide) (Ev.now _)
theorem iSyls (l : List S49) : Ev (fun k => impl_ValidSyllables.f k l) (sylsB l) := by
  unfold impl_ValidSyllables.f sylsB
  by_cases h : (l.length : Int) > 16
  · rw [decide_eq_false (show ¬ (l.length : Int) ≤ 16 by omega), Bool.and_false]
    exact Ev.pos h (Ev.now _)
  · rw [decide_eq_true (show (l.length : Int) ≤ 16 by omega), Bool.and_true]
    exact Ev.neg h (iSyls_l0 l (by omega) l.length 0 (by omega))
def thQ (n : Nat) (t : List Int) (j : Nat) : Bool := decide (0 ≤ t.getD j 0 ∧ t.getD j 0 ≤ (n : Int) - 1)
theorem sComposed_l0 (l : List S49) (t : List Int) (hl : l.length ≤ 8796093022208) (ht : t.length ≤ 35184372088832) (d : Nat) : ∀ (i : Nat), i + d = t.length → Ev (fun k => spec_l18Composed.l0 k l t i) (allF (thQ l.length t) t.length i && decide ((t.length : Int) ≤ 64)) := by
  induction d with
  | zero =>
    intro i h1
    refine Ev.shift ?_
    simp only [spec_l18Composed.l0]
    exact Ev.neg (by omega) (Ev.some (by rw [allF_end _ (by omega), Bool.true_and]))
  | succ d ih =>
    intro i h1
    have w1 : wrap64 ((i : Int) + 1) = ((i + 1 : Nat) : Int) := by rw [wid (by omega)]; rfl
    have w2 : wrap64 ((l.length : Int) - 1) = (l.length : Int) - 1 := wid (by omega)
    refine Ev.shift ?_
    simp only [spec_l18Composed.l0, rd_nat, w1, w2, in_eq, Option.bind_some]
    refine Ev.pos (by omega) (Ev.pos (by omega) ?_)
    cases hb : thQ l.length t i with
    | true =>
      rw [allF_yes _ hb]
      exact Ev.pos hb (ih (i + 1) (by omega))
    | false =>
      rw [allF_no _ (by omega) hb]
      refine Ev.neg ?_ (Ev.now _)
      rw [show decide (0 ≤ t.getD i 0 ∧ t.getD i 0 ≤ (l.length : Int) - 1) = false from hb]
      decide
theorem and255 (x : Int) : 0 ≤ wrap64 (Go.bits .and .u64 x 255) ∧ wrap64 (Go.bits .and .u64 x 255) ≤ 255 := by
  have e : Go.bits .and .u64 x 255 = IntKind.u64.wrap ((BitVec.ofInt 64 x &&& BitVec.ofInt 64 255).toNat : Int) := rfl
  have h : (BitVec.ofInt 64 x &&& BitVec.ofInt 64 255).toNat ≤ 255 := by
    rw [BitVec.toNat_and]
    exact Nat.le_trans Nat.and_le_right (by decide)
  generalize (BitVec.ofInt 64 x &&& BitVec.ofInt 64 255).toNat = n at e h
  have e2 : IntKind.u64.wrap (n : Int) = n := by
    unfold IntKind.wrap
    simp [IntKind.bits, IntKind.signed]
    omega
  rw [e, e2, wid (by omega)]
  omega
def bytesB (l : List Int) : Prop := ∀ j, j < l.length → 0 ≤ l.getD j 0 ∧ l.getD j 0 ≤ 255
theorem next_ok (l : List Int) (hb : bytesB l) (a s : Int) (h0 : 0 ≤ a) (h1 : a ≤ 4000000000000000000) : ∃ v s', spec_l00Src_next.f l a s = some (v, a + 1, s') ∧ 0 ≤ v ∧ v ≤ 255 := by
  unfold spec_l00Src_next.f
  rw [wid (x := a + 1) (by omega)]
  by_cases c : a < (l.length : Int)
  · have q := hb a.toNat (by omega)
    have e : rd l a = l.getD a.toNat 0 := rfl
    rw [if_pos c, if_pos h0, if_pos (by omega), e, wid (x := l.getD a.toNat 0) (by omega)]
    exact ⟨_, _, rfl, q⟩
  · rw [if_neg c, if_neg (by omega)]
    exact ⟨_, _, rfl, and255 _⟩
theorem pick_ok (l : List Int) (hb : bytesB l) (a s n : Int) (h0 : 0 ≤ a) (h1 : a ≤ 3000000000000000000) (hn : n ≤ 1000000) : ∃ v a' s', spec_l00Src_pick.f l a s n = some (v, a', s') ∧ 0 ≤ v ∧ (v < n ∨ v = 0) ∧ a ≤ a' ∧ a' ≤ a + 2 := by
  unfold spec_l00Src_pick.f
  by_cases c : n ≤ 1
  · rw [if_pos c]; exact ⟨_, _, _, rfl, Int.le_refl _, .inr rfl, Int.le_refl _, by omega⟩
  rw [if_neg c]
  obtain ⟨v, s1, e1, v0, v1⟩ := next_ok l hb a s h0 (by omega)
  rw [e1]
  simp only [Option.bind_some]
  have tm : ∀ x : Int, 0 ≤ x → 0 ≤ Int.tmod x n ∧ Int.tmod x n < n := fun x hx => by
    rw [Int.tmod_eq_emod_of_nonneg hx]
    exact ⟨Int.emod_nonneg _ (by omega), Int.emod_lt_of_pos _ (by omega)⟩
  by_cases c2 : n > 200
  · rw [if_pos c2]
    obtain ⟨v', s2, e2, v0', v1'⟩ := next_ok l hb (a + 1) s1 (by omega) (by omega)
    rw [e2]
    simp only [Option.bind_some]
    rw [if_neg (by omega), wid (x := v * 256) (by omega), wid (x := v * 256 + v') (by omega)]
    have := tm (v * 256 + v') (by omega)
    exact ⟨_, _, _, rfl, this.1, .inl this.2, by omega, by omega⟩
  · rw [if_neg c2, if_neg (by omega)]
    have := tm v v0
    exact ⟨_, _, _, rfl, this.1, .inl this.2, by omega, by omega⟩
theorem among_ok (l : List Int) (hb : bytesB l) (a s : Int) (m : List Int) (h0 : 0 ≤ a) (h1 : a ≤ 3000000000000000000) (hm : 0 < m.length) (hm2 : m.length ≤ 1000000) : ∃ v a' s', spec_l00Src_among.f l a s m = some (v, a', s') ∧ v ∈ m ∧ a ≤ a' ∧ a' ≤ a + 2 := by
  unfold spec_l00Src_among.f
  obtain ⟨v, a', s', e, v0, v1, a0, a1⟩ := pick_ok l hb a s (m.length : Int) h0 h1 (by omega)
  rw [e]
  simp only [Option.bind_some]
  have hv : v < (m.length : Int) := by rcases v1 with h | h <;> omega
  rw [if_pos v0, if_pos hv]
  refine ⟨_, _, _, rfl, ?_, a0, a1⟩
  have : rd m v = m.getD v.toNat 0 := rfl
  rw [this, List.getD_eq_getElem?_getD, List.getElem?_eq_getElem (by omega)]
  exact List.getElem_mem _
theorem one_ok (l : List Int) (hb : bytesB l) (a s n : Int) (h0 : 0 ≤ a) (h1 : a ≤ 3000000000000000000) (hn : n ≤ 1000000) : ∃ v a' s', spec_l00Src_one.f l a s n = some (v, a', s') ∧ a ≤ a' ∧ a' ≤ a + 2 := by
  unfold spec_l00Src_one.f
  obtain ⟨v, a', s', e, v0, v1, a0, a1⟩ := pick_ok l hb a s n h0 h1 hn
  rw [e]
  exact ⟨_, _, _, rfl, a0, a1⟩
theorem text_ok (l : List Int) (hb : bytesB l) (a s : Int) (m : List ByteArray) (h0 : 0 ≤ a) (h1 : a ≤ 3000000000000000000) (hm : 0 < m.length) (hm2 : m.length ≤ 1000000) : ∃ v a' s', spec_l00Src_text.f l a s m = some (v, a', s') ∧ a ≤ a' ∧ a' ≤ a + 2 := by
  unfold spec_l00Src_text.f
  obtain ⟨v, a', s', e, v0, v1, a0, a1⟩ := pick_ok l hb a s (m.length : Int) h0 h1 (by omega)
  rw [e]
  simp only [Option.bind_some]
  have hv : v < (m.length : Int) := by rcases v1 with h | h <;> omega
  rw [if_pos v0, if_pos hv]
  exact ⟨_, _, _, rfl, a0, a1⟩
theorem drawOk18_l0 (l : List Int) (hb : bytesB l) (N : List ByteArray) (H : List Int) (hN : N.length = 7) (hH : H.length = 7) (d : Nat) : ∀ (i : Nat) (x : List S49) (a s : Int), i + d = 7 → x.length ≤ i → 0 ≤ a → a ≤ 100000 - 4 * (d : Int) → ∃ (r : List S49) (a' s' : Int), r.length ≤ 7 ∧ 0 ≤ a' ∧ a' ≤ 100000 ∧ Ev (fun k => spec_l18DrawOk.l0 k N H x (i : Int) l a s) (r, a', s') := by
  induction d with
  | zero =>
    intro i x a s h1 h2 h3 h4
    refine ⟨x, a, s, by omega, h3, by omega, Ev.shift ?_⟩
    simp only [spec_l18DrawOk.l0]
    exact Ev.neg (by omega) (Ev.now _)
  | succ d ih =>
    intro i x a s h1 h2 h3 h4
    have w1 : wrap64 ((i : Int) + 1) = ((i + 1 : Nat) : Int) := by rw [wid (by omega)]; rfl
    obtain ⟨v, a1, s1, e1, b1, b2⟩ := one_ok l hb a s 3 h3 (by omega) (by omega)
    cases v with
    | true =>
      obtain ⟨r, a', s', q1, q2, q3, q4⟩ := ih (i + 1) x a1 s1 (by omega) (by omega) (by omega) (by omega)
      refine ⟨r, a', s', q1, q2, q3, Ev.shift ?_⟩
      simp only [spec_l18DrawOk.l0, e1, Option.bind_some, w1]
      exact Ev.pos (by omega) (Ev.pos trivial q4)
    | false =>
      obtain ⟨v2, a2, s2, e2, _, b3, b4⟩ := among_ok l hb a1 s1 [1, 1, 2, 3] (by omega) (by omega) (by simp) (by simp)
      obtain ⟨r, a', s', q1, q2, q3, q4⟩ := ih (i + 1) (x ++ [(⟨rdOf ByteArray.empty N (i : Int), rd H (i : Int), v2⟩ : S49)]) a2 s2 (by omega) (by simp; omega) (by omega) (by omega)
      refine ⟨r, a', s', q1, q2, q3, Ev.shift ?_⟩
      simp only [spec_l18DrawOk.l0, e1, e2, Option.bind_some, w1]
      exact Ev.pos (by omega) (Ev.neg (by simp) (Ev.pos (by omega) (Ev.pos (by omega) (Ev.pos (by omega) q4))))
theorem strOne (x : Int) : (strOfNums [x]).size = 1 := by simp [strOfNums, ByteArray.size]
theorem draw18_l0 (l : List Int) (a s : Int) (n d : Nat) (hn : n ≤ 17) : ∀ (i : Nat) (x : List S49), i + d = n → x.length = i → ∃ r : List S49, r.length ≤ 17 ∧ Ev (fun k => spec_l18Draw.l0 k x (n : Int) (i : Int) l a s) (r, a, s) := by
  induction d with
  | zero =>
    intro i x h1 h2
    refine ⟨x, by omega, Ev.shift ?_⟩
    simp only [spec_l18Draw.l0]
    exact Ev.neg (by omega) (Ev.now _)
  | succ d ih =>
    intro i x h1 h2
    have w1 : wrap64 ((i : Int) + 1) = ((i + 1 : Nat) : Int) := by rw [wid (by omega)]; rfl
    obtain ⟨r, q1, q2⟩ := ih (i + 1) (x ++ [(⟨(⟨#[110]⟩ : ByteArray) ++ (strOfNums [(wrap64 (97 + (i : Int))) % 256]), wrap64 (1 + (Int.tmod (i : Int) 3)), 1⟩ : S49)]) (by omega) (by simp; omega)
    refine ⟨r, q1, Ev.shift ?_⟩
    simp only [spec_l18Draw.l0, Option.bind_some, strOne, w1]
    exact Ev.pos (by omega) (Ev.pos (by omega) (Ev.pos (by omega) q2))
theorem draw18 (l : List Int) (hb : bytesB l) (a s : Int) (h0 : 0 ≤ a) (h1 : a ≤ 1000) : ∃ (r : List S49) (a' s' : Int), r.length ≤ 20 ∧ 0 ≤ a' ∧ a' ≤ 200000 ∧ Ev (fun k => spec_l18Draw.f k l a s) (r, a', s') := by
  unfold spec_l18Draw.f spec_l18DrawOk.f
  obtain ⟨r, a1, s1, r1, b1, b2, ev⟩ := drawOk18_l0 l hb [(⟨#[100, 104, 97]⟩ : ByteArray), (⟨#[100, 104, 105, 110]⟩ : ByteArray), (⟨#[103, 101]⟩ : ByteArray), (⟨#[107, 101]⟩ : ByteArray), (⟨#[110, 97]⟩ : ByteArray), (⟨#[116, 97]⟩ : ByteArray), (⟨#[116, 105, 110]⟩ : ByteArray)] [3, 3, 1, 1, 2, 2, 2] rfl rfl 7 0 [] a s (by omega) (by simp) h0 (by omega)
  obtain ⟨v4, a4, s4, e4, _, _, b7, b8⟩ := pick_ok l hb a1 s1 20 (by omega) (by omega) (by omega)
  by_cases c0 : v4 = 0
  · obtain ⟨v5, a5, s5, e5, b9, b10⟩ := text_ok l hb a4 s4 [(⟨#[122, 122, 122, 122, 122, 122]⟩ : ByteArray), (⟨#[122, 122, 122, 122, 122, 122, 122]⟩ : ByteArray), (⟨#[97]⟩ : ByteArray)] (by omega) (by omega) (by simp) (by simp)
    refine ⟨r ++ [(⟨v5, 1, 1⟩ : S49)], a5, s5, by simp; omega, by omega, by omega, Ev.bind ev ?_⟩
    simp only [e4, Option.bind_some]
    refine Ev.pos c0 ?_
    rw [e5]
    exact Ev.some (by simp only [Option.bind_some]; rw [if_pos (by omega)])
  by_cases c1 : v4 = 1
  · obtain ⟨v5, a5, s5, e5, _, b9, b10⟩ := among_ok l hb a4 s4 [0, 3, 4] (by omega) (by omega) (by simp) (by simp)
    refine ⟨r ++ [(⟨(⟨#[122, 122]⟩ : ByteArray), v5, 1⟩ : S49)], a5, s5, by simp; omega, by omega, by omega, Ev.bind ev ?_⟩
    simp only [e4, Option.bind_some]
    refine Ev.neg c0 (Ev.pos c1 ?_)
    rw [e5]
    exact Ev.some (by simp only [Option.bind_some]; rw [if_pos (by omega)])
  by_cases c2 : v4 = 2
  · obtain ⟨v5, a5, s5, e5, _, b9, b10⟩ := among_ok l hb a4 s4 [0, 8, 9] (by omega) (by omega) (by simp) (by simp)
    refine ⟨r ++ [(⟨(⟨#[122, 122]⟩ : ByteArray), 2, v5⟩ : S49)], a5, s5, by simp; omega, by omega, by omega, Ev.bind ev ?_⟩
    simp only [e4, Option.bind_some]
    refine Ev.neg c0 (Ev.neg c1 (Ev.pos c2 ?_))
    rw [e5]
    exact Ev.some (by simp only [Option.bind_some]; rw [if_pos (by omega)])
  by_cases c3 : v4 = 3
  · obtain ⟨v5, a5, s5, e5, hv5, b9, b10⟩ := among_ok l hb a4 s4 [16, 17] (by omega) (by omega) (by simp) (by simp)
    have h5 : 0 ≤ v5 ∧ v5 ≤ 17 := by simp at hv5; omega
    obtain ⟨m, rfl⟩ := Int.eq_ofNat_of_zero_le h5.1
    obtain ⟨r5, q1, q2⟩ := draw18_l0 l a5 s5 m m (by omega) 0 [] (by omega) rfl
    refine ⟨r5, a5, s5, by omega, by omega, by omega, Ev.bind ev ?_⟩
    simp only [e4, Option.bind_some]
    refine Ev.neg c0 (Ev.neg c1 (Ev.neg c2 (Ev.pos c3 ?_)))
    simp only [e5, Option.bind_some]
    exact q2
  · refine ⟨r, a4, s4, by omega, by omega, by omega, Ev.bind ev ?_⟩
    simp only [e4, Option.bind_some]
    exact Ev.neg c0 (Ev.neg c1 (Ev.neg c2 (Ev.neg c3 (Ev.now _))))
def uacc (l : List S49) : Int → List Int → Int
  | a, [] => a
  | a, i :: is => uacc l (wrap64 (a + (rd_T49 l i).f2)) is
theorem uacc_drop (l : List S49) (t : List Int) (a : Int) (i : Nat) (h : i < t.length) : uacc l a (t.drop i) = uacc l (wrap64 (a + (rd_T49 l (t.getD i 0)).f2)) (t.drop (i + 1)) := by
  rw [List.drop_eq_getElem_cons h, List.getD_eq_getElem?_getD, List.getElem?_eq_getElem h, Option.getD_some]
  rfl
theorem sUnits18_l0 (l : List S49) (t : List Int) (ht : t.length ≤ 35184372088832) (ha : ∀ j, j < t.length → thQ l.length t j = true) (d : Nat) : ∀ (i : Nat) (acc : Int), i + d = t.length → Ev (fun k => spec_l18Units.l0 k l t acc i) (uacc l acc (t.drop i)) := by
  induction d with
  | zero =>
    intro i acc h
    refine Ev.shift ?_
    simp only [spec_l18Units.l0]
    exact Ev.neg (by omega) (Ev.some (by rw [List.drop_of_length_le (by omega)]; rfl))
  | succ d ih =>
    intro i acc h
    have q := of_decide_eq_true (ha i (by omega))
    have w1 : wrap64 ((i : Int) + 1) = ((i + 1 : Nat) : Int) := by rw [wid (by omega)]; rfl
    have h1 := ih (i + 1) (wrap64 (acc + (rd_T49 l (t.getD i 0)).f2)) (by omega)
    rw [uacc_drop l t acc i (by omega)]
    refine Ev.shift ?_
    simp only [spec_l18Units.l0, rd_nat, w1]
    exact Ev.pos (by omega) (Ev.pos (by omega) (Ev.pos (by omega) (Ev.pos (by omega) h1)))
theorem sUnits18 (l : List S49) (t : List Int) (ht : t.length ≤ 35184372088832) (ha : ∀ j, j < t.length → thQ l.length t j = true) : Ev (fun k => spec_l18Units.f k l t) (uacc l 0 t) := by
  unfold spec_l18Units.f
  exact sUnits18_l0 l t ht ha t.length 0 0 (by omega)
theorem wrap_add (a b : Int) : wrap64 (wrap64 a + b) = wrap64 (a + b) := by unfold wrap64; omega
theorem wrap_add2 (a b : Int) : wrap64 (a + wrap64 b) = wrap64 (a + b) := by unfold wrap64; omega
theorem uacc_wrap (l : List S49) : ∀ (t : List Int) (a b : Int), wrap64 a = wrap64 b → t ≠ [] → uacc l a t = uacc l b t
  | [], _, _, _, h => absurd rfl h
  | i :: is, a, b, h, _ => by
    show uacc l (wrap64 (a + _)) is = uacc l (wrap64 (b + _)) is
    rw [← wrap_add a, h, wrap_add]
theorem uacc_sum (l : List S49) : ∀ (t : List Int) (a b : Int), wrap64 (uacc l (wrap64 (a + b)) t) = wrap64 (a + uacc l (wrap64 b) t)
  | [], a, b => by
    show wrap64 (wrap64 (a + b)) = wrap64 (a + wrap64 b)
    rw [wrap_add2]; have := wrap_add (a + b) 0; rw [Int.add_zero, Int.add_zero] at this; exact this
  | i :: is, a, b => by
    show wrap64 (uacc l (wrap64 (wrap64 (a + b) + _)) is) = wrap64 (a + uacc l (wrap64 (wrap64 b + _)) is)
    rw [wrap_add, wrap_add, Int.add_assoc]
    exact uacc_sum l is a _
theorem uacc_w (l : List S49) : ∀ (t : List Int) (a : Int), wrap64 a = a → wrap64 (uacc l a t) = uacc l a t
  | [], a, h => h
  | i :: is, a, h => uacc_w l is _ (by have := wrap_add (a + (rd_T49 l i).f2) 0; rwa [Int.add_zero, Int.add_zero] at this)
theorem uacc_app (l : List S49) : ∀ (x y : List Int) (a : Int), uacc l a (x ++ y) = uacc l (uacc l a x) y
  | [], y, a => rfl
  | i :: is, y, a => uacc_app l is y _
theorem uacc_plus (l : List S49) (x y : List Int) : uacc l 0 (x ++ y) = wrap64 (uacc l 0 x + uacc l 0 y) := by
  have h0 : wrap64 0 = 0 := wid (by omega)
  rw [uacc_app, ← uacc_w l y (uacc l 0 x) (uacc_w l x 0 h0)]
  have := uacc_sum l y (uacc l 0 x) 0
  rw [Int.add_zero, uacc_w l x 0 h0, h0] at this
  exact this
def nxS (x : S49) (a b : Int) : Int × Int := if x.f1 = 1 then (a + 1, 0) else if x.f1 = 2 then (0, b + 1) else (a + 1, b + 1)
def cL (most B : Int) (rec : Int → Int → Int → Int → Int × Int × Bool) (u a b : Int) : List S49 → Int → Int → Int × Int × Bool
  | [], n, nd => (n, nd, false)
  | x :: xs, n, nd => if x.f2 > u ∨ (nxS x a b).1 > most ∨ (nxS x a b).2 > most then cL most B rec u a b xs n nd else if nd = B then (n, nd, true) else if (rec (u - x.f2) (nxS x a b).1 (nxS x a b).2 (nd + 1)).2.2 = true then (n + (rec (u - x.f2) (nxS x a b).1 (nxS x a b).2 (nd + 1)).1, (rec (u - x.f2) (nxS x a b).1 (nxS x a b).2 (nd + 1)).2.1, true) else cL most B rec u a b xs (n + (rec (u - x.f2) (nxS x a b).1 (nxS x a b).2 (nd + 1)).1) (rec (u - x.f2) (nxS x a b).1 (nxS x a b).2 (nd + 1)).2.1
def cR (L : List S49) (most B : Int) : Nat → Int → Int → Int → Int → Int × Int × Bool
  | 0, _, _, _, nd => (1, nd, false)
  | d + 1, u, a, b, nd => if u = 0 then (1, nd, false) else cL most B (cR L most B d) u a b L 0 nd
theorem cL_skip {most B : Int} {rec : Int → Int → Int → Int → Int × Int × Bool} {u a b : Int} {x : S49} {xs : List S49} {n nd : Int} (h : x.f2 > u ∨ (nxS x a b).1 > most ∨ (nxS x a b).2 > most) : cL most B rec u a b (x :: xs) n nd = cL most B rec u a b xs n nd := by
  rw [cL, if_pos h]
theorem cL_full {most B : Int} {rec : Int → Int → Int → Int → Int × Int × Bool} {u a b : Int} {x : S49} {xs : List S49} {n nd : Int} (h : ¬ (x.f2 > u ∨ (nxS x a b).1 > most ∨ (nxS x a b).2 > most)) (e : nd = B) : cL most B rec u a b (x :: xs) n nd = (n, nd, true) := by
  rw [cL, if_neg h, if_pos e]
theorem cL_stop {most B : Int} {rec : Int → Int → Int → Int → Int × Int × Bool} {u a b : Int} {x : S49} {xs : List S49} {n nd m nd' : Int} (h : ¬ (x.f2 > u ∨ (nxS x a b).1 > most ∨ (nxS x a b).2 > most)) (e : nd ≠ B) (f : rec (u - x.f2) (nxS x a b).1 (nxS x a b).2 (nd + 1) = (m, nd', true)) : cL most B rec u a b (x :: xs) n nd = (n + m, nd', true) := by
  rw [cL, if_neg h, if_neg e, f, if_pos rfl]
theorem cL_go {most B : Int} {rec : Int → Int → Int → Int → Int × Int × Bool} {u a b : Int} {x : S49} {xs : List S49} {n nd m nd' : Int} (h : ¬ (x.f2 > u ∨ (nxS x a b).1 > most ∨ (nxS x a b).2 > most)) (e : nd ≠ B) (f : rec (u - x.f2) (nxS x a b).1 (nxS x a b).2 (nd + 1) = (m, nd', false)) : cL most B rec u a b (x :: xs) n nd = cL most B rec u a b xs (n + m) nd' := by
  rw [cL, if_neg h, if_neg e, f, if_neg (by simp)]
def okS (x : S49) : Prop := 1 ≤ x.f2 ∧ x.f2 ≤ 8
theorem nxS_b (x : S49) (a b : Int) (ha : 0 ≤ a ∧ a ≤ 64) (hb : 0 ≤ b ∧ b ≤ 64) : 0 ≤ (nxS x a b).1 ∧ (nxS x a b).1 ≤ 65 ∧ 0 ≤ (nxS x a b).2 ∧ (nxS x a b).2 ≤ 65 := by
  unfold nxS
  split
  · exact ⟨by simp only; omega, by simp only; omega, by simp only; omega, by simp only; omega⟩
  · split
    · exact ⟨by simp only; omega, by simp only; omega, by simp only; omega, by simp only; omega⟩
    · exact ⟨by simp only; omega, by simp only; omega, by simp only; omega, by simp only; omega⟩
def bR (B : Int) (rec : Int → Int → Int → Int → Int × Int × Bool) (d : Nat) : Prop := ∀ u a b nd : Int, 0 ≤ u → u ≤ (d : Int) → 0 ≤ nd → nd ≤ B → 0 ≤ (rec u a b nd).1 ∧ nd ≤ (rec u a b nd).2.1 ∧ (rec u a b nd).2.1 ≤ B ∧ (rec u a b nd).1 ≤ (rec u a b nd).2.1 - nd + 1 ∧ ((rec u a b nd).2.2 = true → (rec u a b nd).2.1 = B)
theorem cL_b (most B : Int) (rec : Int → Int → Int → Int → Int × Int × Bool) (d : Nat) (hrec : bR B rec d) (u a b : Int) (hu : 0 ≤ u ∧ u ≤ d + 1) : ∀ (xs : List S49) (n nd : Int), (∀ x ∈ xs, okS x) → 0 ≤ n → 0 ≤ nd → nd ≤ B → n ≤ (cL most B rec u a b xs n nd).1 ∧ nd ≤ (cL most B rec u a b xs n nd).2.1 ∧ (cL most B rec u a b xs n nd).2.1 ≤ B ∧ (cL most B rec u a b xs n nd).1 - n ≤ (cL most B rec u a b xs n nd).2.1 - nd ∧ ((cL most B rec u a b xs n nd).2.2 = true → (cL most B rec u a b xs n nd).2.1 = B)
  | [], n, nd, _, h0, h1, h2 => by
    unfold cL
    exact ⟨by simp, by simp, h2, by simp, fun h => by simp at h⟩
  | x :: xs, n, nd, hx, h0, h1, h2 => by
    have hxs := fun y hy => hx y (List.mem_cons_of_mem _ hy)
    have h3 : okS x := hx x List.mem_cons_self
    unfold cL
    by_cases c : x.f2 > u ∨ (nxS x a b).1 > most ∨ (nxS x a b).2 > most
    · rw [if_pos c]
      exact cL_b most B rec d hrec u a b hu xs n nd hxs h0 h1 h2
    · rw [if_neg c]
      by_cases e : nd = B
      · rw [if_pos e]
        exact ⟨by simp, by simp, h2, by simp, fun _ => e⟩
      · rw [if_neg e]
        unfold okS at h3
        obtain ⟨r0, r1, r2, r3, r4⟩ := hrec (u - x.f2) (nxS x a b).1 (nxS x a b).2 (nd + 1) (by omega) (by omega) (by omega) (by omega)
        generalize rec (u - x.f2) (nxS x a b).1 (nxS x a b).2 (nd + 1) = R at *
        by_cases f : R.2.2 = true
        · rw [if_pos f]
          exact ⟨by simp only; omega, by simp only; omega, r2, by simp only; omega, fun _ => r4 f⟩
        · rw [if_neg f]
          obtain ⟨q0, q1, q2, q3, q4⟩ := cL_b most B rec d hrec u a b hu xs (n + R.1) R.2.1 hxs (by omega) (by omega) r2
          exact ⟨by omega, by omega, q2, by omega, q4⟩
theorem cR_b (L : List S49) (most B : Int) (hL : ∀ x ∈ L, okS x) : ∀ d : Nat, bR B (cR L most B d) d
  | 0 => fun u a b nd h0 h1 h2 h3 => by
    unfold cR
    exact ⟨by simp, by simp, h3, by simp, fun h => by simp at h⟩
  | d + 1 => fun u a b nd h0 h1 h2 h3 => by
    unfold cR
    by_cases c : u = 0
    · rw [if_pos c]
      exact ⟨by simp, by simp, h3, by simp, fun h => by simp at h⟩
    · rw [if_neg c]
      obtain ⟨q0, q1, q2, q3, q4⟩ := cL_b most B (cR L most B d) d (cR_b L most B hL d) u a b ⟨h0, by omega⟩ L 0 nd hL (by omega) h2 h3
      exact ⟨q0, q1, q2, by omega, q4⟩
theorem rdSg (l : List S49) (i : Nat) (hi : i < l.length) : rd_T49 l (i : Int) = l[i] := by
  rw [rdSy, List.getD_eq_getElem?_getD, List.getElem?_eq_getElem hi]; rfl
theorem nextS (x : S49) (a b : Int) (ha : 0 ≤ a ∧ a ≤ 64) (hb : 0 ≤ b ∧ b ≤ 64) : spec_l18Next_at.f x.f0 x.f1 x.f2 a b = some (nxS x a b) := by
  unfold spec_l18Next_at.f nxS
  rw [wid (x := a + 1) (by omega), wid (x := b + 1) (by omega)]
  split
  · rfl
  · split <;> rfl
theorem nextI (x : S49) (a b : Int) (ha : 0 ≤ a ∧ a ≤ 64) (hb : 0 ≤ b ∧ b ≤ 64) : impl_playedRuns_next.f a b x.f0 x.f1 x.f2 = some (nxS x a b) := by
  unfold impl_playedRuns_next.f nxS
  rw [wid (x := a + 1) (by omega), wid (x := b + 1) (by omega)]
  split
  · rfl
  · split <;> rfl
def iOut (most B : Int) (R : Int × Int × Bool) : Int × Int × Int × Option Nat := if R.2.2 = true then (0, most, -1, none) else (R.1, most, B - R.2.1, none)
def iSays (L : List S49) (most B : Int) (rec : Int → Int → Int → Int → Int × Int × Bool) (d : Nat) : Prop := ∀ u a b nd : Int, 0 ≤ u → u ≤ (d : Int) → 0 ≤ a ∧ a ≤ most → 0 ≤ b ∧ b ≤ most → 0 ≤ nd → nd ≤ B → Ev (fun k => impl_composedSearch_count.f k L most (B - nd) none [] a b u) (iOut most B (rec u a b nd))
set_option maxHeartbeats 4000000 in
theorem iLoop (L : List S49) (hL : ∀ x ∈ L, okS x) (hlen : L.length ≤ 16) (most B : Int) (hm : 1 ≤ most ∧ most ≤ 64) (hB : 1 ≤ B ∧ B ≤ 20000) (rec : Int → Int → Int → Int → Int × Int × Bool) (d : Nat) (hd : d ≤ 64) (hrec : bR B rec d) (hs : iSays L most B rec d) (u a b : Int) (hu : 0 ≤ u ∧ u ≤ d + 1) (ha : 0 ≤ a ∧ a ≤ most) (hb : 0 ≤ b ∧ b ≤ most) (q : Nat) :
    ∀ (i : Nat) (n nd : Int), i + q = L.length → 0 ≤ n → n ≤ 100000 + nd → 0 ≤ nd → nd ≤ B → Ev (fun k => impl_composedSearch_count.l0 k u n L (L.length : Int) i L most (B - nd) none [] a b) (iOut most B (cL most B rec u a b (L.drop i) n nd)) := by
  induction q with
  | zero =>
    intro i n nd h1 h2 h5 h3 h4
    refine Ev.shift ?_
    simp only [impl_composedSearch_count.l0]
    refine Ev.neg (by omega) (Ev.some ?_)
    rw [List.drop_of_length_le (by omega)]
    rfl
  | succ q ih =>
    intro i n nd h1 h2 h5 h3 h4
    have hi : i < L.length := by omega
    have e1 : (0 : Int) ≤ (i : Int) := Int.natCast_nonneg i
    have e2 : (i : Int) < (L.length : Int) := Int.ofNat_lt.2 hi
    have hx : okS L[i] := hL _ (List.getElem_mem hi)
    have hn := nextI L[i] a b (by omega) (by omega)
    have hnb := nxS_b L[i] a b (by omega) (by omega)
    have w1 : wrap64 ((i : Int) + 1) = ((i + 1 : Nat) : Int) := by rw [wid (by omega)]; rfl
    rw [List.drop_eq_getElem_cons (i := i) hi]
    refine Ev.shift ?_
    simp only [impl_composedSearch_count.l0]
    rw [rdSg L i hi, hn]
    simp only [Option.bind_some]
    refine Ev.pos e2 (Ev.pos e1 (Ev.pos e2 ?_))
    have hrc := hrec (u - L[i].f2) (nxS L[i] a b).1 (nxS L[i] a b).2 (nd + 1)
    have hsc := hs (u - L[i].f2) (nxS L[i] a b).1 (nxS L[i] a b).2 (nd + 1)
    have kS := @cL_skip most B rec u a b L[i] (L.drop (i + 1)) n nd
    have kF := @cL_full most B rec u a b L[i] (L.drop (i + 1)) n nd
    have kP := @cL_stop most B rec u a b L[i] (L.drop (i + 1)) n nd
    have kG := @cL_go most B rec u a b L[i] (L.drop (i + 1)) n nd
    generalize cL most B rec u a b (L[i] :: L.drop (i + 1)) n nd = G at kS kF kP kG ⊢
    generalize rec (u - L[i].f2) (nxS L[i] a b).1 (nxS L[i] a b).2 (nd + 1) = R at hrc hsc kP kG
    generalize (nxS L[i] a b).1 = a' at *
    generalize (nxS L[i] a b).2 = b' at *
    by_cases c : L[i].f2 > u ∨ a' > most ∨ b' > most
    · rw [kS c]
      have J : ∀ z : Bool, z = true → Ev (fun k => impl_composedSearch_count.j1 k u n L (L.length : Int) i z L most (B - nd) none [] a b L[i].f0 L[i].f1 L[i].f2 a' b') (iOut most B (cL most B rec u a b (L.drop (i + 1)) n nd)) := by
        rintro z rfl
        refine Ev.shift ?_
        simp only [impl_composedSearch_count.j1]
        rw [w1]
        exact Ev.pos (by trivial) (ih (i + 1) n nd (by omega) h2 h5 h3 h4)
      by_cases c1 : L[i].f2 > u
      · exact Ev.pos c1 (J _ rfl)
      · refine Ev.neg c1 ?_
        unfold impl_playedRuns_longest.f
        simp only [Option.bind_some]
        refine J _ (decide_eq_true ?_)
        unfold mx
        split <;> omega
    · refine Ev.neg (by omega) ?_
      unfold impl_playedRuns_longest.f
      simp only [Option.bind_some]
      rw [decide_eq_false (by unfold mx; split <;> omega)]
      refine Ev.shift ?_
      simp only [impl_composedSearch_count.j1]
      refine Ev.neg (by decide) ?_
      rw [wid (x := B - nd - 1) (by omega)]
      by_cases e : nd = B
      · rw [kF c e]
        refine Ev.pos (by omega) (Ev.some ?_)
        unfold iOut
        rw [if_pos rfl, show B - nd - 1 = -1 by omega]
      · unfold okS at hx
        refine Ev.neg (by omega) ?_
        rw [wid (x := u - L[i].f2) (by omega)]
        have hr := hrc (by omega) (by omega) (by omega) (by omega)
        have hS := hsc (by omega) (by omega) ⟨by omega, by omega⟩ ⟨by omega, by omega⟩ (by omega) (by omega)
        clear hrc hsc
        rw [show B - (nd + 1) = B - nd - 1 by omega] at hS
        obtain ⟨m, nd', fl⟩ := R
        simp only at hr
        refine Ev.bind hS ?_
        cases fl with
        | true =>
          rw [kP c e rfl]
          unfold iOut
          rw [if_pos rfl, if_pos rfl]
          exact Ev.pos (by show (-1 : Int) < 0; decide) (Ev.some rfl)
        | false =>
          rw [kG c e rfl]
          unfold iOut
          rw [if_neg (by simp)]
          simp only
          refine Ev.neg (by omega) ?_
          rw [wid (x := n + m) (by omega), w1]
          exact ih (i + 1) (n + m) nd' (by omega) (by omega) (by omega) (by omega) (by omega)
theorem iAll (L : List S49) (hL : ∀ x ∈ L, okS x) (hlen : L.length ≤ 16) (most B : Int) (hm : 1 ≤ most ∧ most ≤ 64) (hB : 1 ≤ B ∧ B ≤ 20000) : ∀ d : Nat, d ≤ 64 → iSays L most B (cR L most B d) d
  | 0, _ => fun u a b nd h0 h1 ha hb h2 h3 => by
    have hu : u = 0 := by omega
    unfold cR
    refine Ev.shift ?_
    simp only [impl_composedSearch_count.f]
    exact Ev.pos hu (Ev.some rfl)
  | d + 1, hd => fun u a b nd h0 h1 ha hb h2 h3 => by
    refine Ev.shift ?_
    simp only [impl_composedSearch_count.f]
    unfold cR
    by_cases hu : u = 0
    · rw [if_pos hu]
      exact Ev.pos hu (Ev.some rfl)
    · rw [if_neg hu]
      refine Ev.neg hu ?_
      have := iLoop L hL hlen most B hm hB (cR L most B d) d (by omega) (cR_b L most B hL d) (iAll L hL hlen most B hm hB d (by omega)) u a b ⟨h0, by omega⟩ ha hb L.length 0 0 nd (by omega) (by omega) (by omega) h2 h3
      rw [List.drop_zero] at this
      exact this
def ccR (L : List S49) (u m B : Int) : Int × Int := if sylsB L = true then (if 0 ≤ u ∧ u ≤ 64 then (if 1 ≤ m ∧ m ≤ 64 then (if 1 ≤ B ∧ B ≤ 20000 then (if (cR L m B 64 u 0 0 0).2.2 = true then (0, 5) else ((cR L m B 64 u 0 0 0).1, 0)) else (0, 2)) else (0, 2)) else (0, 2)) else (0, 1)
theorem syls_ok {L : List S49} (h : sylsB L = true) : (∀ x ∈ L, okS x) ∧ L.length ≤ 16 := by
  unfold sylsB at h
  rw [Bool.and_eq_true, allF_iff, decide_eq_true_iff] at h
  refine ⟨fun x hx => ?_, by omega⟩
  obtain ⟨j, hj, rfl⟩ := List.getElem_of_mem hx
  have := h.1 j hj (Nat.zero_le _)
  unfold syQ sylB at this
  rw [List.getD_eq_getElem?_getD, List.getElem?_eq_getElem hj, Option.getD_some] at this
  simp only [Bool.and_eq_true, decide_eq_true_eq] at this
  exact ⟨this.1.2.2.2.1, this.1.2.2.2.2⟩
theorem iCC (L : List S49) (u m B : Int) : Ev (fun k => impl_CountComposed.f k L u m B) (ccR L u m B) := by
  unfold impl_CountComposed.f ccR
  refine Ev.bind (iSyls L) ?_
  cases v : sylsB L with
  | false =>
    rw [if_neg (by decide)]
    exact Ev.neg (by decide) (Ev.now _)
  | true =>
    obtain ⟨hL, h16⟩ := syls_ok v
    rw [if_pos rfl]
    refine Ev.pos rfl ?_
    by_cases c1 : 0 ≤ u ∧ u ≤ 64
    · rw [if_pos c1]
      refine Ev.pos c1 ?_
      by_cases c2 : 1 ≤ m ∧ m ≤ 64
      · rw [if_pos c2]
        refine Ev.pos c2 ?_
        by_cases c3 : 1 ≤ B ∧ B ≤ 20000
        · rw [if_pos c3]
          refine Ev.pos c3 ?_
          have h := iAll L hL h16 m B c2 c3 64 (by omega) u 0 0 0 c1.1 (by omega) ⟨by omega, by omega⟩ ⟨by omega, by omega⟩ (by omega) (by omega)
          have hb := cR_b L m B hL 64 u 0 0 0 c1.1 (by omega) (by omega) (by omega)
          rw [Int.sub_zero] at h
          refine Ev.bind h ?_
          unfold iOut
          by_cases f : (cR L m B 64 u 0 0 0).2.2 = true
          · rw [if_pos f, if_pos f]
            exact Ev.pos (by show (-1 : Int) < 0; decide) (Ev.now _)
          · rw [if_neg f, if_neg f]
            exact Ev.neg (by simp only; omega) (Ev.now _)
        · rw [if_neg c3]
          exact Ev.neg c3 (Ev.now _)
      · rw [if_neg c2]
        exact Ev.neg c2 (Ev.now _)
    · rw [if_neg c1]
      exact Ev.neg c1 (Ev.now _)
def okX (most : Int) (rec : Int → Int → Int → Bool) (u a b : Int) (x : S49) : Bool := !(decide (x.f2 > u ∨ (nxS x a b).1 > most ∨ (nxS x a b).2 > most)) && rec (u - x.f2) (nxS x a b).1 (nxS x a b).2
/-- Can the units u be played out from the runs a and b? -/
def canE (L : List S49) (most : Int) : Nat → Int → Int → Int → Bool
  | 0, _, _, _ => true
  | d + 1, u, a, b => decide (u = 0) || L.any (okX most (canE L most d) u a b)
theorem canE_zero (L : List S49) (most : Int) (d : Nat) (a b : Int) : canE L most d 0 a b = true := by
  cases d with
  | zero => rfl
  | succ d => simp [canE]
theorem any_same {α : Type} {p q : α → Bool} : ∀ (l : List α), (∀ x ∈ l, p x = q x) → l.any p = l.any q
  | [], _ => rfl
  | x :: xs, h => by rw [List.any_cons, List.any_cons, h x List.mem_cons_self, any_same xs fun y hy => h y (List.mem_cons_of_mem _ hy)]
theorem canE_eq (L : List S49) (most : Int) (hL : ∀ x ∈ L, okS x) : ∀ (d e : Nat) (u a b : Int), 0 ≤ u → u ≤ d → u ≤ e → canE L most d u a b = canE L most e u a b
  | 0, e, u, a, b, h0, h1, h2 => by
    have : u = 0 := by omega
    subst this
    rw [canE_zero, canE_zero]
  | d + 1, e, u, a, b, h0, h1, h2 => by
    by_cases hu : u = 0
    · subst hu; rw [canE_zero, canE_zero]
    · obtain ⟨e, rfl⟩ : ∃ e', e = e' + 1 := ⟨e - 1, by omega⟩
      simp only [canE]
      congr 1
      refine any_same L fun x hx => ?_
      unfold okX
      by_cases c : x.f2 > u ∨ (nxS x a b).1 > most ∨ (nxS x a b).2 > most
      · rw [decide_eq_true c]; rfl
      · have := hL x hx
        unfold okS at this
        rw [canE_eq L most hL d e (u - x.f2) _ _ (by omega) (by omega) (by omega)]
def cntSays (most B : Int) (R : Int → Int → Int → Int → Int × Int × Bool) (rec : Int → Int → Int → Bool) (d : Nat) : Prop := ∀ u a b nd : Int, 0 ≤ u → u ≤ d → 0 ≤ nd → nd ≤ B → (R u a b nd).2.2 = false → (0 < (R u a b nd).1 ↔ rec u a b = true)
theorem cL_cnt (most B : Int) (R : Int → Int → Int → Int → Int × Int × Bool) (rec : Int → Int → Int → Bool) (d : Nat) (hb : bR B R d) (hs : cntSays most B R rec d) (u a b : Int) (hu : 0 ≤ u ∧ u ≤ d + 1) : ∀ (xs : List S49) (n nd : Int), (∀ x ∈ xs, okS x) → 0 ≤ n → 0 ≤ nd → nd ≤ B → (cL most B R u a b xs n nd).2.2 = false → (0 < (cL most B R u a b xs n nd).1 ↔ 0 < n ∨ xs.any (okX most rec u a b) = true)
  | [], n, nd, _, _, _, _, _ => by simp [cL]
  | x :: xs, n, nd, hx, h0, h1, h2, hf => by
    have hxs := fun y hy => hx y (List.mem_cons_of_mem _ hy)
    have h3 : okS x := hx x List.mem_cons_self
    unfold okS at h3
    rw [List.any_cons]
    unfold cL at hf ⊢
    by_cases c : x.f2 > u ∨ (nxS x a b).1 > most ∨ (nxS x a b).2 > most
    · rw [if_pos c] at hf ⊢
      have e : okX most rec u a b x = false := by unfold okX; rw [decide_eq_true c]; rfl
      rw [e, Bool.false_or]
      exact cL_cnt most B R rec d hb hs u a b hu xs n nd hxs h0 h1 h2 hf
    · rw [if_neg c] at hf ⊢
      have e : okX most rec u a b x = rec (u - x.f2) (nxS x a b).1 (nxS x a b).2 := by unfold okX; rw [decide_eq_false c]; rfl
      rw [e]
      by_cases eB : nd = B
      · rw [if_pos eB] at hf; cases hf
      · rw [if_neg eB] at hf ⊢
        obtain ⟨r0, r1, r2, _, _⟩ := hb (u - x.f2) (nxS x a b).1 (nxS x a b).2 (nd + 1) (by omega) (by omega) (by omega) (by omega)
        have hq := hs (u - x.f2) (nxS x a b).1 (nxS x a b).2 (nd + 1) (by omega) (by omega) (by omega) (by omega)
        generalize R (u - x.f2) (nxS x a b).1 (nxS x a b).2 (nd + 1) = Q at *
        by_cases f : Q.2.2 = true
        · rw [if_pos f] at hf; cases hf
        · rw [if_neg f] at hf ⊢
          have hq' := hq (by simpa using f)
          rw [cL_cnt most B R rec d hb hs u a b hu xs (n + Q.1) Q.2.1 hxs (by omega) (by omega) r2 hf, Bool.or_eq_true, ← hq', ← or_assoc]
          refine or_congr_left ?_
          omega
theorem cR_cnt (L : List S49) (most B : Int) (hL : ∀ x ∈ L, okS x) : ∀ d : Nat, cntSays most B (cR L most B d) (canE L most d) d
  | 0 => fun u a b nd h0 h1 h2 h3 hf => by simp [cR, canE]
  | d + 1 => fun u a b nd h0 h1 h2 h3 hf => by
    unfold cR at hf ⊢
    unfold canE
    by_cases c : u = 0
    · rw [if_pos c, decide_eq_true c]; simp
    · rw [if_neg c] at hf ⊢
      rw [decide_eq_false c, Bool.false_or, cL_cnt most B (cR L most B d) (canE L most d) d (cR_b L most B hL d) (cR_cnt L most B hL d) u a b ⟨h0, by omega⟩ L 0 nd hL (Int.le_refl _) h2 h3 hf]
      exact ⟨fun h => h.elim (fun h => absurd h (by omega)) id, .inr⟩
/-! the first one -/
def deadT (L : List S49) (most : Int) (t : Int × Int × Int) : Prop := canE L most t.2.2.toNat t.2.2 t.1 t.2.1 = false ∧ (0 ≤ t.1 ∧ t.1 ≤ 64) ∧ (0 ≤ t.2.1 ∧ t.2.1 ≤ 64) ∧ 1 ≤ t.2.2 ∧ t.2.2 ≤ 64
def mOk (L : List S49) (most : Int) (M : List (Int × Int × Int)) : Prop := M.Nodup ∧ ∀ t ∈ M, deadT L most t
theorem nodup_lt : ∀ (n : Nat) (l : List Nat), l.Nodup → (∀ x ∈ l, x < n) → l.length ≤ n
  | 0, l, _, h => by
    cases l with
    | nil => simp
    | cons x xs => exact absurd (h x List.mem_cons_self) (by omega)
  | n + 1, l, hn, h => by
    have h1 := nodup_lt n (l.erase n) (hn.erase n) (fun x hx => by
      have h2 := (hn.mem_erase_iff).1 hx
      have := h x h2.2
      omega)
    rw [List.length_erase] at h1
    split at h1 <;> omega
theorem mOk_len {L : List S49} {most : Int} {M : List (Int × Int × Int)} (h : mOk L most M) : M.length < 1000000 := by
  have h1 := nodup_lt 300000 (M.map fun t => (t.1.toNat * 65 + t.2.1.toNat) * 65 + t.2.2.toNat) (by
    unfold List.Nodup
    rw [List.pairwise_map]
    refine List.Pairwise.imp_of_mem ?_ h.1
    intro s t hs ht hne e
    obtain ⟨_, a1, a2, a3⟩ := h.2 s hs
    obtain ⟨_, b1, b2, b3⟩ := h.2 t ht
    refine hne ?_
    obtain ⟨s1, s2, s3⟩ := s
    obtain ⟨t1, t2, t3⟩ := t
    simp only at *
    have e1 : s1 = t1 := by omega
    have e2 : s2 = t2 := by omega
    have e3 : s3 = t3 := by omega
    rw [e1, e2, e3]) (by
    intro x hx
    obtain ⟨t, ht, rfl⟩ := List.mem_map.1 hx
    obtain ⟨_, b1, b2, b3⟩ := h.2 t ht
    omega)
  rw [List.length_map] at h1
  omega
def plays (L : List S49) (most : Int) : Int → Int → Int → List Int → Prop
  | _, _, u, [] => u = 0
  | a, b, u, i :: is => 0 ≤ i ∧ i < (L.length : Int) ∧ (rd_T49 L i).f2 ≤ u ∧ (nxS (rd_T49 L i) a b).1 ≤ most ∧ (nxS (rd_T49 L i) a b).2 ≤ most ∧ plays L most (nxS (rd_T49 L i) a b).1 (nxS (rd_T49 L i) a b).2 (u - (rd_T49 L i).f2) is
theorem next_nx (x : S49) (a b : Int) (ha : 0 ≤ a ∧ a ≤ 64) (hb : 0 ≤ b ∧ b ≤ 64) : fc_next a b x.f1 = nxS x a b := by
  unfold fc_next nxS
  rw [wid (x := a + 1) (by omega), wid (x := b + 1) (by omega)]
theorem mx_gt (m a b : Int) : m < mx a b ↔ a > m ∨ b > m := by unfold mx; split <;> omega
def fSays (L : List S49) (most : Int) (d : Nat) : Prop := ∀ (u a b : Int) (M : List (Int × Int × Int)) (C : List Int), 0 ≤ u → u ≤ d → 0 ≤ a ∧ a ≤ most → 0 ≤ b ∧ b ≤ most → mOk L most M → C.length + u ≤ 64 →
  ∃ M' P, Ev (fun k => fc_f k L most M C a b u) (canE L most d u a b, M', C ++ P) ∧ mOk L most M' ∧ (canE L most d u a b = true → plays L most a b u P) ∧ (canE L most d u a b = false → P = []) ∧ (∀ t ∈ M', t ∈ M ∨ t.2.2 ≤ u)
theorem fLoop (L : List S49) (hL : ∀ x ∈ L, okS x) (most : Int) (hm : 1 ≤ most ∧ most ≤ 64) (d : Nat) (hd : d ≤ 63) (hs : fSays L most d) (u a b : Int) (hu : 1 ≤ u ∧ u ≤ d + 1) (ha : 0 ≤ a ∧ a ≤ most) (hb : 0 ≤ b ∧ b ≤ most) (q : Nat) : ∀ (i : Nat) (M : List (Int × Int × Int)) (C : List Int), i + q = L.length → (L.take i).any (okX most (canE L most d) u a b) = false → mOk L most M → (a, b, u) ∉ M → C.length + u ≤ 64 →
    ∃ M' P, Ev (fun k => fc_loop (fc_f k L most) most a b u (L.drop i) i M C) (canE L most (d + 1) u a b, M', C ++ P) ∧ mOk L most M' ∧ (canE L most (d + 1) u a b = true → plays L most a b u P) ∧ (canE L most (d + 1) u a b = false → P = []) ∧ (∀ t ∈ M', t ∈ M ∨ t.2.2 ≤ u) := by
  induction q with
  | zero =>
    intro i M C h1 h2 h3 h4 h5
    have hi : i = L.length := by omega
    subst hi
    rw [List.take_length] at h2
    have hc : canE L most (d + 1) u a b = false := by
      unfold canE
      rw [h2, decide_eq_false (by omega), Bool.or_false]
    rw [hc, List.drop_length]
    refine ⟨M ++ [(a, b, u)], [], ?_, ⟨?_, ?_⟩, fun h => absurd h (by simp), fun _ => rfl, ?_⟩
    · unfold fc_loop
      rw [List.append_nil]
      exact Ev.pos (mOk_len h3) (Ev.now _)
    · rw [List.nodup_append]
      refine ⟨h3.1, by simp, fun x hx y hy => ?_⟩
      rw [List.mem_singleton] at hy
      subst hy
      exact fun e => h4 (e ▸ hx)
    · intro t ht
      rcases List.mem_append.1 ht with ht | ht
      · exact h3.2 t ht
      · rw [List.mem_singleton] at ht
        subst ht
        refine ⟨?_, by simp only; omega, by simp only; omega, by simp only; omega, by simp only; omega⟩
        simp only
        rw [← hc]
        exact canE_eq L most hL _ _ u a b (by omega) (by omega) (by omega)
    · intro t ht
      rcases List.mem_append.1 ht with ht | ht
      · exact .inl ht
      · rw [List.mem_singleton] at ht; subst ht; exact .inr (Int.le_refl _)
  | succ q ih =>
    intro i M C h1 h2 h3 h4 h5
    have hi : i < L.length := by omega
    have hx : okS L[i] := hL _ (List.getElem_mem hi)
    unfold okS at hx
    have hn := next_nx L[i] a b (by omega) (by omega)
    have hnb := nxS_b L[i] a b (by omega) (by omega)
    have htk : (L.take (i + 1)).any (okX most (canE L most d) u a b) = okX most (canE L most d) u a b L[i] := by
      rw [List.take_add_one, List.any_append, h2, List.getElem?_eq_getElem hi, Bool.false_or]
      simp
    rw [List.drop_eq_getElem_cons hi]
    unfold fc_loop
    rw [hn]
    by_cases c : L[i].f2 > u ∨ (nxS L[i] a b).1 > most ∨ (nxS L[i] a b).2 > most
    · have ho : okX most (canE L most d) u a b L[i] = false := by unfold okX; rw [decide_eq_true c]; rfl
      obtain ⟨M', P, q1, q2⟩ := ih (i + 1) M C (by omega) (htk.trans ho) h3 h4 h5
      refine ⟨M', P, Ev.pos ?_ q1, q2⟩
      rw [mx_gt]
      exact c
    · have ho : okX most (canE L most d) u a b L[i] = canE L most d (u - L[i].f2) (nxS L[i] a b).1 (nxS L[i] a b).2 := by unfold okX; rw [decide_eq_false c]; rfl
      obtain ⟨M1, P1, e1, e2, e3, e4, e5⟩ := hs (u - L[i].f2) (nxS L[i] a b).1 (nxS L[i] a b).2 M (C ++ [(i : Int)]) (by omega) (by omega) ⟨by omega, by omega⟩ ⟨by omega, by omega⟩ h3 (by rw [List.length_append, List.length_singleton]; omega)
      rw [← ho] at e1 e3 e4
      have w : wrap64 (u - L[i].f2) = u - L[i].f2 := wid (by omega)
      have hneg : ¬ (u < L[i].f2 ∨ most < mx (nxS L[i] a b).1 (nxS L[i] a b).2) := by rw [mx_gt]; exact c
      rw [w]
      cases hr : okX most (canE L most d) u a b L[i] with
      | true =>
        rw [hr] at e1 e3
        have hc : canE L most (d + 1) u a b = true := by
          unfold canE
          rw [Bool.or_eq_true]
          exact .inr (List.any_eq_true.2 ⟨_, List.getElem_mem hi, hr⟩)
        rw [hc]
        refine ⟨M1, (i : Int) :: P1, Ev.neg hneg (Ev.pos (by omega) (Ev.bind e1 (Ev.pos rfl ?_))), e2, fun _ => ?_, fun h => absurd h (by simp), fun t ht => ?_⟩
        · rw [List.append_assoc]; exact Ev.now _
        · have hg := rdSg L i hi
          refine ⟨by omega, by omega, ?_, ?_, ?_, ?_⟩
          · rw [hg]; omega
          · rw [hg]; omega
          · rw [hg]; omega
          · rw [hg]; exact e3 rfl
        · rcases e5 t ht with h | h
          · exact .inl h
          · exact .inr (by omega)
      | false =>
        rw [hr] at e1 e4
        have hP := e4 rfl
        subst hP
        rw [List.append_nil] at e1
        obtain ⟨M', P, q1, q2, q3, q4, q5⟩ := ih (i + 1) M1 C (by omega) (htk.trans hr) e2 (fun h => by
          rcases e5 _ h with h | h
          · exact h4 h
          · simp only at h; omega) h5
        refine ⟨M', P, Ev.neg hneg (Ev.pos (by omega) (Ev.bind e1 (Ev.neg (by simp) (Ev.pos (by simp) ?_)))), q2, q3, q4, fun t ht => ?_⟩
        · have et : (C ++ [(i : Int)]).take ((C ++ [(i : Int)]).length - 1) = C := by
            rw [List.length_append, List.length_singleton, Nat.add_sub_cancel, List.take_left']
            rfl
          simp only [et]
          exact q1
        · rcases q5 t ht with h | h
          · rcases e5 t h with h | h
            · exact .inl h
            · exact .inr (by omega)
          · exact .inr h
theorem fAll (L : List S49) (hL : ∀ x ∈ L, okS x) (most : Int) (hm : 1 ≤ most ∧ most ≤ 64) : ∀ d : Nat, d ≤ 64 → fSays L most d
  | 0, _ => fun u a b M C h0 h1 ha hb hM hC => by
    have hu : u = 0 := by omega
    subst hu
    refine ⟨M, [], Ev.shift ?_, hM, fun _ => rfl, fun _ => rfl, fun t ht => .inl ht⟩
    simp only [fc_f]
    exact Ev.pos trivial (Ev.some (by rw [canE_zero, List.append_nil]))
  | d + 1, hd => fun u a b M C h0 h1 ha hb hM hC => by
    by_cases hu : u = 0
    · subst hu
      refine ⟨M, [], Ev.shift ?_, hM, fun _ => rfl, fun h => rfl, fun t ht => .inl ht⟩
      simp only [fc_f]
      exact Ev.pos trivial (Ev.some (by rw [canE_zero, List.append_nil]))
    · by_cases hin : (a, b, u) ∈ M
      · have hdd := (hM.2 _ hin).1
        simp only at hdd
        have hc : canE L most (d + 1) u a b = false := by
          rw [← hdd]
          exact canE_eq L most hL _ _ u a b h0 h1 (by omega)
        rw [hc]
        refine ⟨M, [], Ev.shift ?_, hM, fun h => absurd h (by simp), fun _ => rfl, fun t ht => .inl ht⟩
        simp only [fc_f]
        exact Ev.neg hu (Ev.pos hin (Ev.some (by rw [List.append_nil])))
      · obtain ⟨M', P, q1, q2, q3, q4, q5⟩ := fLoop L hL most hm d (by omega) (fAll L hL most hm d (by omega)) u a b ⟨by omega, by omega⟩ ha hb L.length 0 M C (by omega) (by simp) hM hin hC
        rw [List.drop_zero] at q1
        refine ⟨M', P, Ev.shift ?_, q2, q3, q4, q5⟩
        simp only [fc_f]
        exact Ev.neg hu (Ev.neg hin q1)
/-! what is played -/
theorem plays_len (L : List S49) (hL : ∀ x ∈ L, okS x) (most : Int) : ∀ (P : List Int) (a b u : Int), plays L most a b u P → (P.length : Int) ≤ u ∧ ∀ i ∈ P, 0 ≤ i ∧ i < (L.length : Int)
  | [], a, b, u, h => by unfold plays at h; simp [h]
  | i :: is, a, b, u, h => by
    unfold plays at h
    obtain ⟨h1, h2, h3, _, _, h6⟩ := h
    have ⟨q1, q2⟩ := plays_len L hL most is _ _ _ h6
    have hx : okS (rd_T49 L i) := by
      obtain ⟨j, rfl⟩ := Int.eq_ofNat_of_zero_le h1
      rw [rdSg L j (by omega)]
      exact hL _ (List.getElem_mem _)
    unfold okS at hx
    refine ⟨by rw [List.length_cons]; omega, fun j hj => ?_⟩
    rcases List.mem_cons.1 hj with rfl | hj
    · exact ⟨h1, h2⟩
    · exact q2 j hj
theorem plays_units (L : List S49) (hL : ∀ x ∈ L, okS x) (most : Int) : ∀ (P : List Int) (a b u acc : Int), plays L most a b u P → 0 ≤ acc → acc + u ≤ 1000 → uacc L acc P = acc + u
  | [], a, b, u, acc, h, _, _ => by unfold plays at h; subst h; simp [uacc]
  | i :: is, a, b, u, acc, h, h0, h9 => by
    unfold plays at h
    obtain ⟨h1, h2, h3, _, _, h6⟩ := h
    have hx : okS (rd_T49 L i) := by
      obtain ⟨j, rfl⟩ := Int.eq_ofNat_of_zero_le h1
      rw [rdSg L j (by omega)]
      exact hL _ (List.getElem_mem _)
    unfold okS at hx
    show uacc L (wrap64 (acc + (rd_T49 L i).f2)) is = acc + u
    have := plays_units L hL most is _ _ _ (acc + (rd_T49 L i).f2) h6 (by omega) (by omega)
    rw [wid (by omega), this]
    omega
theorem sRun_l0 (L : List S49) (P : List Int) (most : Int) (hm : 1 ≤ most ∧ most ≤ 64) (hP : P.length ≤ 64) (d : Nat) : ∀ (i : Nat) (u a b f m : Int), i + d = P.length → 0 ≤ a ∧ a ≤ most → 0 ≤ b ∧ b ≤ most → m ≤ most → plays L most a b u (P.drop i) → ∃ f' m', m' ≤ most ∧ Ev (fun k => spec_l18Run.l0 k L P f m a b i) (f', m') := by
  induction d with
  | zero =>
    intro i u a b f m h1 ha hb hm2 hp
    refine ⟨f, m, hm2, Ev.shift ?_⟩
    simp only [spec_l18Run.l0]
    exact Ev.neg (by omega) (Ev.now _)
  | succ d ih =>
    intro i u a b f m h1 ha hb hm2 hp
    have w1 : wrap64 ((i : Int) + 1) = ((i + 1 : Nat) : Int) := by rw [wid (by omega)]; rfl
    rw [List.drop_eq_getElem_cons (i := i) (by omega)] at hp
    unfold plays at hp
    obtain ⟨h2, h3, _, h4, h5, h6⟩ := hp
    have hn := nextS (rd_T49 L P[i]) a b (by omega) (by omega)
    have hnb := nxS_b (rd_T49 L P[i]) a b (by omega) (by omega)
    have hg := rd_get P i (by omega)
    generalize nxS (rd_T49 L P[i]) a b = nx at hn hnb h4 h5 h6
    obtain ⟨n1, n2⟩ := nx
    simp only at hnb h4 h5 h6
    have hmax : ∃ t, spec_l00Max.f n1 n2 = some t ∧ t ≤ most := by
      unfold spec_l00Max.f
      split
      · exact ⟨_, rfl, h4⟩
      · exact ⟨_, rfl, h5⟩
    obtain ⟨t, ht, htm⟩ := hmax
    by_cases c : t > m
    · obtain ⟨f', m', q1, q2⟩ := ih (i + 1) _ n1 n2 (wrap64 (((i + 1 : Nat) : Int) - t)) t (by omega) ⟨by omega, h4⟩ ⟨by omega, h5⟩ htm h6
      refine ⟨f', m', q1, Ev.shift ?_⟩
      simp only [spec_l18Run.l0, hg, hn, ht, Option.bind_some, w1]
      exact Ev.pos (by omega) (Ev.pos (by omega) (Ev.pos h2 (Ev.pos h3 (Ev.pos c q2))))
    · obtain ⟨f', m', q1, q2⟩ := ih (i + 1) _ n1 n2 f m (by omega) ⟨by omega, h4⟩ ⟨by omega, h5⟩ hm2 h6
      refine ⟨f', m', q1, Ev.shift ?_⟩
      simp only [spec_l18Run.l0, hg, hn, ht, Option.bind_some, w1]
      exact Ev.pos (by omega) (Ev.pos (by omega) (Ev.pos h2 (Ev.pos h3 (Ev.neg c q2))))
theorem sAsk18 (L : List S49) (P : List Int) (hl : L.length ≤ 8796093022208) (hs : sylsB L = true) (hP : P.length ≤ 64) (hin : ∀ i ∈ P, 0 ≤ i ∧ i < (L.length : Int)) : Ev (fun k => spec_l18Ask.f k L P) 0 ∧ ∀ j, j < P.length → thQ L.length P j = true := by
  have hq : ∀ j, j < P.length → thQ L.length P j = true := fun j hj => by
    have := hin _ (List.getElem_mem hj)
    unfold thQ
    rw [List.getD_eq_getElem?_getD, List.getElem?_eq_getElem hj, Option.getD_some]
    exact decide_eq_true (by omega)
  refine ⟨?_, hq⟩
  have h1 := sSyls L hl
  rw [hs] at h1
  have h2 : Ev (fun k => spec_l18Composed.f k L P) true := by
    have := sComposed_l0 L P hl (by omega) P.length 0 (by omega)
    rw [(allF_iff _).2 fun j hj _ => hq j hj, decide_eq_true (show (P.length : Int) ≤ 64 by omega)] at this
    unfold spec_l18Composed.f
    exact this
  unfold spec_l18Ask.f
  exact Ev.bind h1 (Ev.pos rfl (Ev.bind h2 (Ev.pos rfl (Ev.now _))))
theorem iFC (L : List S49) (u m : Int) : ∃ P c, Ev (fun k => impl_FirstComposed.f k L u m) (P, c) ∧ (c ≠ 0 → P = []) ∧ (sylsB L = true → 0 ≤ u ∧ u ≤ 64 → 1 ≤ m ∧ m ≤ 64 → (c = 0 ↔ canE L m 64 u 0 0 = true)) ∧ (c = 0 → sylsB L = true ∧ (0 ≤ u ∧ u ≤ 64) ∧ (1 ≤ m ∧ m ≤ 64) ∧ plays L m 0 0 u P) := by
  unfold impl_FirstComposed.f
  have h1 := iSyls L
  cases v : sylsB L with
  | false =>
    rw [v] at h1
    exact ⟨[], 1, Ev.bind h1 (Ev.neg (by simp) (Ev.now _)), fun _ => rfl, fun h => by simp at h, fun h => by simp at h⟩
  | true =>
    obtain ⟨hL, h16⟩ := syls_ok v
    rw [v] at h1
    by_cases c1 : 0 ≤ u ∧ u ≤ 64
    · by_cases c2 : 1 ≤ m ∧ m ≤ 64
      · obtain ⟨M', P, e1, _, e3, e4, _⟩ := fAll L hL m c2 64 (Nat.le_refl _) u 0 0 [] [] c1.1 c1.2 ⟨Int.le_refl _, by omega⟩ ⟨Int.le_refl _, by omega⟩ ⟨List.nodup_nil, by simp⟩ (by simp; omega)
        rw [List.nil_append] at e1
        cases hc : canE L m 64 u 0 0 with
        | true =>
          rw [hc] at e1
          exact ⟨P, 0, Ev.bind h1 (Ev.pos rfl (Ev.pos c1 (Ev.pos c2 (Ev.bind e1 (Ev.pos rfl (Ev.now _)))))), fun h => absurd rfl h, fun _ _ _ => by simp, fun _ => ⟨rfl, c1, c2, e3 hc⟩⟩
        | false =>
          rw [hc] at e1
          exact ⟨[], 3, Ev.bind h1 (Ev.pos rfl (Ev.pos c1 (Ev.pos c2 (Ev.bind e1 (Ev.neg (by simp) (Ev.now _)))))), fun _ => rfl, fun _ _ _ => by simp, fun h => by simp at h⟩
      · exact ⟨[], 2, Ev.bind h1 (Ev.pos rfl (Ev.pos c1 (Ev.neg c2 (Ev.now _)))), fun _ => rfl, fun _ _ h => absurd h c2, fun h => by simp at h⟩
    · exact ⟨[], 2, Ev.bind h1 (Ev.pos rfl (Ev.neg c1 (Ev.now _))), fun _ => rfl, fun _ h => absurd h c1, fun h => by simp at h⟩
theorem FnComposed : laws_FnComposed.Pure := by
  intro x0 _ _ hw
  have hb : bytesB x0 := fun j hj => by
    have h := hw _ (List.getElem_mem hj)
    rw [List.getD_eq_getElem?_getD, List.getElem?_eq_getElem hj, Option.getD_some]
    simp [Lit.wf, IntKind.min, IntKind.max, IntKind.signed, IntKind.bits] at h
    omega
  refine Ev.rounds (g := fun k => laws_FnComposed.f k x0) ?_
  obtain ⟨L, a1, s1, hL, b1, b2, ev⟩ := draw18 x0 hb 0 0 (by omega) (by omega)
  obtain ⟨v2, a2, s2, e2, _, _, b3, b4⟩ := pick_ok x0 hb a1 s1 8 (by omega) (by omega) (by omega)
  obtain ⟨v3, a3, s3, e3, b5, b6⟩ := one_ok x0 hb a2 s2 8 (by omega) (by omega) (by omega)
  have hd : ∃ u m B, Ev (fun k => spec_DrawCountComposed.f k x0) (L, u, m, B) := by
    unfold spec_DrawCountComposed.f spec_l00From.f spec_l18DrawMost.f
    simp only [Option.bind_some]
    cases v3 with
    | true =>
      obtain ⟨v4, a4, s4, e4, _, b7, b8⟩ := among_ok x0 hb a3 s3 [(-1), 0, 64, 65] (by omega) (by omega) (by simp) (by simp)
      obtain ⟨v5, a5, s5, e5, _, b9, b10⟩ := among_ok x0 hb a4 s4 [1, 2, 3, 2, 64, 65, 0] (by omega) (by omega) (by simp) (by simp)
      obtain ⟨v6, a6, s6, e6, _, b11, b12⟩ := among_ok x0 hb a5 s5 [1, 50, 400, 1000, 0, 20001, 600] (by omega) (by omega) (by simp) (by simp)
      refine ⟨v4, v5, v6, Ev.bind ev ?_⟩
      simp only [e2, e3, e4, e5, e6, Option.bind_some]
      exact Ev.pos trivial (Ev.now _)
    | false =>
      obtain ⟨v5, a5, s5, e5, _, b9, b10⟩ := among_ok x0 hb a3 s3 [1, 2, 3, 2, 64, 65, 0] (by omega) (by omega) (by simp) (by simp)
      obtain ⟨v6, a6, s6, e6, _, b11, b12⟩ := among_ok x0 hb a5 s5 [1, 50, 400, 1000, 0, 20001, 600] (by omega) (by omega) (by simp) (by simp)
      refine ⟨v2, v5, v6, Ev.bind ev ?_⟩
      simp only [e2, e3, e5, e6, Option.bind_some]
      exact Ev.neg (by simp) (Ev.now _)
  obtain ⟨u, m, B, hd⟩ := hd
  have hC := iCC L u m B
  obtain ⟨P, c, hF, f1, f2, f3⟩ := iFC L u m
  have hcc : (0 ≤ (ccR L u m B).1) ∧ ((ccR L u m B).2 ≠ 0 → (ccR L u m B).1 = 0) ∧ ((ccR L u m B).2 = 0 → (0 < (ccR L u m B).1 ↔ c = 0)) := by
    unfold ccR
    by_cases v : sylsB L = true
    · obtain ⟨hok, h16⟩ := syls_ok v
      rw [if_pos v]
      by_cases c1 : 0 ≤ u ∧ u ≤ 64
      · rw [if_pos c1]
        by_cases c2 : 1 ≤ m ∧ m ≤ 64
        · rw [if_pos c2]
          by_cases c3 : 1 ≤ B ∧ B ≤ 20000
          · rw [if_pos c3]
            have hbb := cR_b L m B hok 64 u 0 0 0 c1.1 c1.2 (Int.le_refl _) (by omega)
            by_cases f : (cR L m B 64 u 0 0 0).2.2 = true
            · rw [if_pos f]; exact ⟨Int.le_refl _, fun _ => rfl, fun h => by simp at h⟩
            · rw [if_neg f]
              refine ⟨hbb.1, fun h => absurd rfl h, fun _ => ?_⟩
              rw [f2 v c1 c2]
              exact cR_cnt L m B hok 64 u 0 0 0 c1.1 c1.2 (Int.le_refl _) (by omega) (by simpa using f)
          · rw [if_neg c3]; exact ⟨Int.le_refl _, fun _ => rfl, fun h => by simp at h⟩
        · rw [if_neg c2]; exact ⟨Int.le_refl _, fun _ => rfl, fun h => by simp at h⟩
      · rw [if_neg c1]; exact ⟨Int.le_refl _, fun _ => rfl, fun h => by simp at h⟩
    · rw [if_neg v]; exact ⟨Int.le_refl _, fun _ => rfl, fun h => by simp at h⟩
  generalize ccR L u m B = R at hC hcc
  obtain ⟨g1, g2, g3⟩ := hcc
  have J : Ev (fun k => laws_FnComposed.j0 k L u m P c false) true := by
    refine Ev.shift ?_
    simp only [laws_FnComposed.j0]
    refine Ev.neg (by simp) ?_
    by_cases hc : c = 0
    · obtain ⟨v, c1, c2, hp⟩ := f3 hc
      obtain ⟨hok, h16⟩ := syls_ok v
      obtain ⟨p1, p2⟩ := plays_len L hok m P 0 0 u hp
      obtain ⟨k1, k2⟩ := sAsk18 L P (by omega) v (by omega) p2
      have k3 := sUnits18 L P (by omega) k2
      rw [plays_units L hok m P 0 0 u 0 hp (Int.le_refl _) (by omega), Int.zero_add] at k3
      obtain ⟨f', m', r1, r2⟩ := sRun_l0 L P m c2 (by omega) P.length 0 u 0 0 0 0 (by omega) ⟨Int.le_refl _, by omega⟩ ⟨Int.le_refl _, by omega⟩ (by omega) (by rw [List.drop_zero]; exact hp)
      have hU : Ev (fun k => spec_ComposedUnits.f k L P) (u, 0) := by
        unfold spec_ComposedUnits.f
        exact Ev.bind k1 (Ev.pos rfl (Ev.bind k3 (Ev.now _)))
      have hPl : Ev (fun k => spec_IsPlayable.f k L P m) true := by
        unfold spec_IsPlayable.f spec_l18Most.f
        simp only [in_eq, Option.bind_some]
        have r3 : Ev (fun k => spec_l18Run.f k L P) (f', m') := r2
        refine Ev.bind k1 (Ev.pos rfl (Ev.pos (decide_eq_true c2) (Ev.bind r3 (Ev.some ?_))))
        show some (decide (m' ≤ m)) = some true
        rw [decide_eq_true r1]
      exact Ev.pos hc (Ev.bind hU (Ev.pos rfl (Ev.pos rfl (Ev.bind hPl (Ev.now _)))))
    · rw [f1 hc]
      exact Ev.neg hc (Ev.now _)
  unfold laws_FnComposed.f laws_b10Long.f
  simp only [Option.bind_some]
  generalize decide ((x0.length : Int) > 1048576) = q0
  cases q0 with
  | true => exact Ev.pos rfl (Ev.now _)
  | false =>
    refine Ev.neg (by simp) (Ev.bind hd (Ev.bind hC ?_))
    by_cases h8 : m > 8
    · refine Ev.pos h8 ?_
      by_cases h0 : R.2 = 0
      · exact Ev.pos h0 (Ev.pos g1 (Ev.now _))
      · refine Ev.neg h0 (Ev.some ?_)
        rw [g2 h0]; rfl
    · refine Ev.neg h8 (Ev.bind hF ?_)
      by_cases h0 : R.2 = 0
      · refine Ev.pos h0 ?_
        have e : ((decide (R.1 > 0)) != (c == 0)) = false := by
          by_cases hp : 0 < R.1
          · rw [decide_eq_true hp, (g3 h0).1 hp]; rfl
          · rw [decide_eq_false hp, beq_eq_false_iff_ne.2 (fun z => hp ((g3 h0).2 z))]; rfl
        rw [e]
        exact J
      · exact Ev.neg h0 J

end Go.Proofs.Ytlcciappjbppfaa.Pure
