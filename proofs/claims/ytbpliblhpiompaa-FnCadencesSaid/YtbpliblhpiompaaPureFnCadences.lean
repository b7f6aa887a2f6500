/- The pure statement of the law FnCadences: what the Go functions compute, told by plain Lean functions, is what the law asks, for all arguments. No condition beyond the printed ones. -/
import Derived.Test.YtbpliblhpiompaaPFnCadencesx10
import Derived.Test.YtbpliblhpiompaaXW
namespace Go.Proofs.Ytbpliblhpiompaa.Pure
open Go.RowKit Go.Proofs.Ytbpliblhpiompaa.PFnCadences Go.Proofs.YtbpliblhpiompaaW.PrintWords Go.Proofs.YtbpliblhpiompaaW.PrintLast Go.Proofs.YtbpliblhpiompaaW.PrintMore Go.Proofs.YtbpliblhpiompaaXW
set_option linter.unusedVariables false
set_option linter.unusedSimpArgs false
def risQ (l : List Int) (lo hi : Int) (j : Nat) : Bool := decide (lo ≤ l.getD j 0 ∧ l.getD j 0 ≤ hi) && (decide (j = 0) || decide (l.getD (j - 1) 0 < l.getD j 0))
theorem in_eq (a b c : Int) : spec_l00In.f a b c = some (decide (b ≤ a ∧ a ≤ c)) := by
  unfold spec_l00In.f; split <;> simp_all; omega
theorem within_eq (a b c : Int) : impl_within.f a b c = some (decide (b ≤ a ∧ a ≤ c)) := by
  unfold impl_within.f; split <;> simp_all; omega
theorem allIn_eq (l : List Int) (a b : Int) : impl_allWithin.f l a b = some (l.all fun x => decide (a ≤ x ∧ x ≤ b)) := by
  unfold impl_allWithin.f
  rw [List.not_any_eq_all_not]
  congr 2
  funext x
  simp [allP]
def chQ (s : ByteArray) (j : Nat) : Bool := decide (97 ≤ bt s j ∧ bt s j ≤ 122) || decide (48 ≤ bt s j ∧ bt s j ≤ 57)
def nameB (s : ByteArray) : Bool := decide (1 ≤ s.size ∧ s.size ≤ 10) && (decide (97 ≤ bt s 0 ∧ bt s 0 ≤ 122) && allF (chQ s) s.size 0)
theorem small_eq (a : Int) : spec_l01Small.f a = some (decide (97 ≤ a ∧ a ≤ 122)) := by
  unfold spec_l01Small.f; split <;> simp_all; omega
theorem digit_eq (a : Int) : spec_l01Digit.f a = some (decide (48 ≤ a ∧ a ≤ 57)) := by
  unfold spec_l01Digit.f; split <;> simp_all; omega
theorem sName_l0 (s : ByteArray) (hs : s.size ≤ 10) (d : Nat) : ∀ (i : Nat), i + d = s.size → Ev (fun k => spec_l01Name.l0 k s i) (allF (chQ s) s.size i) := by
  induction d with
  | zero =>
    intro i h1
    refine Ev.shift ?_
    simp only [spec_l01Name.l0]
    exact Ev.neg (by omega) (Ev.some (by rw [allF_end _ (by omega)]))
  | succ d ih =>
    intro i h1
    have w1 : wrap64 ((i : Int) + 1) = ((i + 1 : Nat) : Int) := by rw [wid (by omega)]; rfl
    refine Ev.shift ?_
    simp only [spec_l01Name.l0, small_eq, digit_eq, Option.bind_some, w1]
    refine Ev.pos (by omega) (Ev.pos (by omega) ?_)
    by_cases a : 97 ≤ bt s i ∧ bt s i ≤ 122
    · rw [allF_yes _ (show chQ s i = true by unfold chQ; rw [decide_eq_true a]; rfl)]
      exact Ev.pos (decide_eq_true a) (ih (i + 1) (by omega))
    · refine Ev.neg (by rw [decide_eq_true_iff]; exact a) ?_
      by_cases b : 48 ≤ bt s i ∧ bt s i ≤ 57
      · rw [allF_yes _ (show chQ s i = true by unfold chQ; rw [decide_eq_true b, Bool.or_true])]
        exact Ev.pos (decide_eq_true b) (ih (i + 1) (by omega))
      · rw [allF_no _ (by omega) (show chQ s i = false by unfold chQ; rw [decide_eq_false a, decide_eq_false b]; rfl)]
        exact Ev.neg (by rw [decide_eq_true_iff]; exact b) (Ev.now _)
theorem sName (s : ByteArray) : Ev (fun k => spec_l01Name.f k s) (nameB s) := by
  unfold spec_l01Name.f nameB
  simp only [small_eq, Option.bind_some]
  have e : s.toList.length = s.size := by rw [ByteArray.toList_eq]; simp
  have f : Ev (fun k => spec_l01Name.j0 k s true) false := by
    refine Ev.shift ?_
    simp only [spec_l01Name.j0]
    exact Ev.pos trivial (Ev.now _)
  by_cases h0 : s.toList = []
  · refine Ev.pos h0 ?_
    rw [h0] at e
    rw [decide_eq_false (by simp at e; omega)]
    exact f
  · refine Ev.neg h0 ?_
    have hp : 0 < s.toList.length := List.length_pos_iff.2 h0
    by_cases h1 : (s.size : Int) > 10
    · refine Ev.pos h1 ?_
      rw [decide_eq_false (show ¬ (1 ≤ s.size ∧ s.size ≤ 10) by omega)]
      exact f
    · refine Ev.neg h1 (Ev.pos (by omega) ?_)
      rw [decide_eq_true (show 1 ≤ s.size ∧ s.size ≤ 10 by omega), Bool.true_and]
      cases hb : decide (97 ≤ bt s 0 ∧ bt s 0 ≤ 122) with
      | false => exact f
      | true =>
        refine Ev.shift ?_
        simp only [spec_l01Name.j0]
        exact Ev.neg (by decide) (sName_l0 s (by omega) s.size 0 (by omega))
theorem iName_l0 (s : ByteArray) (hs : s.size ≤ 10) (d : Nat) : ∀ (i : Nat), i + d = s.size → Ev (fun k => impl_onlyNameBytes.l0 k s (s.size : Int) i) (allF (chQ s) s.size i) := by
  induction d with
  | zero =>
    intro i h1
    refine Ev.shift ?_
    simp only [impl_onlyNameBytes.l0]
    exact Ev.neg (by omega) (Ev.some (by rw [allF_end _ (by omega)]))
  | succ d ih =>
    intro i h1
    have w1 : wrap64 ((i : Int) + 1) = ((i + 1 : Nat) : Int) := by rw [wid (by omega)]; rfl
    refine Ev.shift ?_
    simp only [impl_onlyNameBytes.l0, w1]
    refine Ev.pos (by omega) (Ev.pos (by omega) (Ev.pos (by omega) ?_))
    by_cases a : 97 ≤ bt s i ∧ bt s i ≤ 122
    · rw [allF_yes _ (show chQ s i = true by unfold chQ; rw [decide_eq_true a]; rfl)]
      exact Ev.neg (by omega) (Ev.neg (by omega) (ih (i + 1) (by omega)))
    · by_cases b : 48 ≤ bt s i ∧ bt s i ≤ 57
      · rw [allF_yes _ (show chQ s i = true by unfold chQ; rw [decide_eq_true b, Bool.or_true])]
        exact Ev.pos (by omega) (Ev.neg (by omega) (Ev.neg (by omega) (ih (i + 1) (by omega))))
      · rw [allF_no _ (by omega) (show chQ s i = false by unfold chQ; rw [decide_eq_false a, decide_eq_false b]; rfl)]
        by_cases c : bt s i < 97
        · refine Ev.pos c ?_
          by_cases c2 : bt s i < 48
          · exact Ev.pos c2 (Ev.now _)
          · exact Ev.neg c2 (Ev.pos (by omega) (Ev.now _))
        · exact Ev.neg c (Ev.pos (by omega) (Ev.neg (by omega) (Ev.pos (by omega) (Ev.now _))))
theorem iName (s : ByteArray) : Ev (fun k => impl_IsName.f k s) (nameB s) := by
  unfold impl_IsName.f nameB impl_onlyNameBytes.f
  by_cases h0 : (s.size : Int) < 1
  · rw [decide_eq_false (show ¬ (1 ≤ s.size ∧ s.size ≤ 10) by omega)]
    exact Ev.pos h0 (Ev.now _)
  · refine Ev.neg h0 ?_
    by_cases h1 : (s.size : Int) > 10
    · rw [decide_eq_false (show ¬ (1 ≤ s.size ∧ s.size ≤ 10) by omega)]
      exact Ev.pos h1 (Ev.now _)
    · rw [decide_eq_true (show 1 ≤ s.size ∧ s.size ≤ 10 by omega), Bool.true_and]
      refine Ev.neg h1 (Ev.pos (by omega) ?_)
      by_cases a : bt s 0 < 97
      · rw [decide_eq_false (show ¬ (97 ≤ bt s 0 ∧ bt s 0 ≤ 122) by omega)]
        exact Ev.pos a (Ev.now _)
      · refine Ev.neg a ?_
        by_cases b : bt s 0 > 122
        · rw [decide_eq_false (show ¬ (97 ≤ bt s 0 ∧ bt s 0 ≤ 122) by omega)]
          exact Ev.pos b (Ev.now _)
        · rw [decide_eq_true (show 97 ≤ bt s 0 ∧ bt s 0 ≤ 122 by omega), Bool.true_and]
          exact Ev.neg b (Ev.bind (iName_l0 s (by omega) s.size 0 (by omega)) (Ev.now _))
def wsum : Int → List Int → Int
  | s, [] => s
  | s, x :: l => wsum (wrap64 (s + x)) l
theorem consW (g : List Int) (i : Nat) (h : i < g.length) : g.drop i = g.getD i 0 :: g.drop (i + 1) := by
  rw [List.drop_eq_getElem_cons h, List.getD_eq_getElem?_getD, List.getElem?_eq_getElem h]; rfl
theorem sWsum_l0 (l : List Int) (hl : l.length ≤ 35184372088832) (d : Nat) : ∀ (i : Nat) (s : Int), i + d = l.length → Ev (fun k => spec_l17Sum.l0 k l s i) (wsum s (l.drop i)) := by
  induction d with
  | zero =>
    intro i s h1
    refine Ev.shift ?_
    simp only [spec_l17Sum.l0]
    rw [List.drop_of_length_le (by omega), wsum]
    exact Ev.neg (by omega) (Ev.now _)
  | succ d ih =>
    intro i s h1
    have p1 : (i : Int) < (l.length : Int) := by omega
    have w1 : wrap64 ((i : Int) + 1) = ((i + 1 : Nat) : Int) := by rw [wid (by omega)]; rfl
    refine Ev.shift ?_
    simp only [spec_l17Sum.l0, rd_nat, w1]
    rw [consW l i (by omega), wsum]
    exact Ev.pos p1 (Ev.pos (Int.natCast_nonneg _) (ih (i + 1) _ (by omega)))
theorem sWsum (l : List Int) (hl : l.length ≤ 35184372088832) : Ev (fun k => spec_l17Sum.f k l) (wsum 0 l) :=
  sWsum_l0 l hl l.length 0 0 (by omega)
theorem iWsum_l0 (l : List Int) (hl : l.length ≤ 35184372088832) (d : Nat) : ∀ (i : Nat) (s : Int), i + d = l.length → Ev (fun k => impl_sumOf.l0 k s l (l.length : Int) i) (wsum s (l.drop i)) := by
  induction d with
  | zero =>
    intro i s h1
    refine Ev.shift ?_
    simp only [impl_sumOf.l0]
    rw [List.drop_of_length_le (by omega), wsum]
    exact Ev.neg (by omega) (Ev.now _)
  | succ d ih =>
    intro i s h1
    have p1 : (i : Int) < (l.length : Int) := by omega
    have w1 : wrap64 ((i : Int) + 1) = ((i + 1 : Nat) : Int) := by rw [wid (by omega)]; rfl
    refine Ev.shift ?_
    simp only [impl_sumOf.l0, rd_nat, w1]
    rw [consW l i (by omega), wsum]
    exact Ev.pos p1 (Ev.pos (Int.natCast_nonneg _) (Ev.pos p1 (ih (i + 1) _ (by omega))))
theorem iWsum (l : List Int) (hl : l.length ≤ 35184372088832) : Ev (fun k => impl_sumOf.f k l) (wsum 0 l) :=
  iWsum_l0 l hl l.length 0 0 (by omega)
theorem wsum_bd (l : List Int) : ∀ s : Int, 0 ≤ s → (∀ x ∈ l, 1 ≤ x ∧ x ≤ 16) → s + 16 * l.length ≤ 1000000 → s + l.length ≤ wsum s l ∧ wsum s l ≤ s + 16 * l.length := by
  induction l with
  | nil => intro s h1 _ h3; rw [wsum]; simp
  | cons x l ih =>
    intro s h1 h2 h3
    have hx := h2 x (by simp)
    rw [List.length_cons] at h3
    have := ih (s + x) (by omega) (fun y hy => h2 y (by simp [hy])) (by omega)
    rw [wsum, wid (by omega), List.length_cons]
    omega
def taQ (a b : List Int) (j : Nat) : Bool := decide (1 ≤ a.getD j 0 ∧ a.getD j 0 ≤ 16) && (if j = 0 then decide (b.getD j 0 = 1) else decide (2 ≤ b.getD j 0 ∧ b.getD j 0 ≤ 3))
def talaB (s : ByteArray) (a b : List Int) : Bool := nameB s && (decide (1 ≤ (a.length : Int) ∧ (a.length : Int) ≤ 8) && (decide ((b.length : Int) = (a.length : Int)) && (allF (taQ a b) a.length 0 && decide (wsum 0 a ≤ 32))))
theorem sTala_l0 (s : ByteArray) (a b : List Int) (h8 : a.length ≤ 8) (hb : b.length = a.length) (d : Nat) : ∀ (i : Nat), i + d = a.length → Ev (fun k => spec_l17Ok.l0 k (a.length : Int) i s a b) (allF (taQ a b) a.length i && decide (wsum 0 a ≤ 32), s) := by
  induction d with
  | zero =>
    intro i h1
    refine Ev.shift ?_
    simp only [spec_l17Ok.l0]
    refine Ev.neg (by omega) (Ev.bind (sWsum a (by omega)) ?_)
    rw [allF_end _ (by omega), Bool.true_and]
    exact Ev.now _
  | succ d ih =>
    intro i h1
    have p1 : (i : Int) < (a.length : Int) := by omega
    have p2 : (i : Int) < (b.length : Int) := by omega
    have w1 : wrap64 ((i : Int) + 1) = ((i + 1 : Nat) : Int) := by rw [wid (by omega)]; rfl
    have hr := ih (i + 1) (by omega)
    refine Ev.shift ?_
    simp only [spec_l17Ok.l0, rd_nat, in_eq, Option.bind_some, w1]
    refine Ev.pos p1 (Ev.pos (Int.natCast_nonneg _) (Ev.pos p1 ?_))
    by_cases ha : 1 ≤ a.getD i 0 ∧ a.getD i 0 ≤ 16
    · refine Ev.pos (decide_eq_true ha) ?_
      by_cases h0 : i = 0
      · subst h0
        refine Ev.pos rfl (Ev.pos p2 ?_)
        by_cases h : b.getD 0 0 = 1
        · rw [allF_yes _ (show taQ a b 0 = true by unfold taQ; rw [decide_eq_true ha, if_pos rfl, decide_eq_true h]; rfl)]
          exact Ev.pos h (Ev.neg (by omega) hr)
        · rw [allF_no _ (by omega) (show taQ a b 0 = false by unfold taQ; rw [decide_eq_true ha, if_pos rfl, decide_eq_false h]; rfl)]
          exact Ev.neg h (Ev.now _)
      · refine Ev.neg (by omega) (Ev.pos (by omega) (Ev.pos p2 ?_))
        by_cases h : 2 ≤ b.getD i 0 ∧ b.getD i 0 ≤ 3
        · rw [allF_yes _ (show taQ a b i = true by unfold taQ; rw [decide_eq_true ha, if_neg h0, decide_eq_true h]; rfl)]
          exact Ev.pos (decide_eq_true h) hr
        · rw [allF_no _ (by omega) (show taQ a b i = false by unfold taQ; rw [decide_eq_true ha, if_neg h0, decide_eq_false h]; rfl)]
          exact Ev.neg (by rw [decide_eq_true_iff]; exact h) (Ev.now _)
    · rw [allF_no _ (by omega) (show taQ a b i = false by unfold taQ; rw [decide_eq_false ha]; rfl)]
      exact Ev.neg (by rw [decide_eq_true_iff]; exact ha) (Ev.now _)
theorem sTala (s : ByteArray) (a b : List Int) (hl : a.length ≤ 35184372088832) : Ev (fun k => spec_l17Ok.f k s a b) (talaB s a b, s) := by
  unfold spec_l17Ok.f talaB
  simp only [in_eq, Option.bind_some]
  have f : Ev (fun k => spec_l17Ok.j0 k (a.length : Int) true s a b) (false, s) := by
    refine Ev.shift ?_
    simp only [spec_l17Ok.j0]
    exact Ev.pos trivial (Ev.now _)
  refine Ev.bind (sName s) ?_
  cases nameB s with
  | false => exact Ev.neg (by decide) f
  | true =>
    refine Ev.pos rfl ?_
    rw [Bool.true_and]
    by_cases h8 : 1 ≤ (a.length : Int) ∧ (a.length : Int) ≤ 8
    · rw [decide_eq_true h8, Bool.true_and]
      refine Ev.pos rfl ?_
      by_cases hb : (b.length : Int) = (a.length : Int)
      · rw [decide_eq_true hb, Bool.true_and, show ((b.length : Int) != (a.length : Int)) = false from by rw [hb]; simp]
        refine Ev.shift ?_
        simp only [spec_l17Ok.j0]
        exact Ev.neg (by decide) (sTala_l0 s a b (by omega) (by omega) a.length 0 (by omega))
      · rw [decide_eq_false hb, Bool.false_and, show ((b.length : Int) != (a.length : Int)) = true from bne_iff_ne.2 hb]
        exact f
    · rw [decide_eq_false h8, Bool.false_and]
      exact Ev.neg (by decide) f
theorem talaB_sum {s : ByteArray} {a b : List Int} (h : talaB s a b = true) : 1 ≤ wsum 0 a ∧ wsum 0 a ≤ 32 := by
  unfold talaB at h
  rw [Bool.and_eq_true, Bool.and_eq_true, Bool.and_eq_true, Bool.and_eq_true, decide_eq_true_iff, decide_eq_true_iff, allF_iff] at h
  obtain ⟨_, h1, _, h2, h3⟩ := h
  refine ⟨?_, of_decide_eq_true h3⟩
  have := wsum_bd a 0 (Int.le_refl _) (fun x hx => by
    obtain ⟨j, hj, rfl⟩ := List.getElem_of_mem hx
    have := h2 j hj (Nat.zero_le _)
    unfold taQ at this
    rw [Bool.and_eq_true, decide_eq_true_iff, List.getD_eq_getElem?_getD, List.getElem?_eq_getElem hj] at this
    exact this.1) (by omega)
  omega
theorem iTala (s : ByteArray) (a b : List Int) (hl : a.length ≤ 35184372088832) : Ev (fun k => impl_ValidTala.f k s a b) (talaB s a b) := by
  unfold impl_ValidTala.f talaB impl_Tala_beats.f
  simp only [allIn_eq, Option.bind_some]
  refine Ev.bind (iName s) ?_
  cases nameB s with
  | false => exact Ev.neg (by decide) (Ev.now _)
  | true =>
    refine Ev.pos rfl ?_
    rw [Bool.true_and]
    by_cases g1 : (a.length : Int) < 1
    · rw [decide_eq_false (show ¬ (1 ≤ (a.length : Int) ∧ (a.length : Int) ≤ 8) by omega)]
      exact Ev.pos g1 (Ev.now _)
    refine Ev.neg g1 ?_
    by_cases g2 : (a.length : Int) > 8
    · rw [decide_eq_false (show ¬ (1 ≤ (a.length : Int) ∧ (a.length : Int) ≤ 8) by omega)]
      exact Ev.pos g2 (Ev.now _)
    refine Ev.neg g2 ?_
    rw [decide_eq_true (show 1 ≤ (a.length : Int) ∧ (a.length : Int) ≤ 8 by omega), Bool.true_and]
    have ga : (a.all fun x => decide (1 ≤ x ∧ x ≤ 16)) = true ↔ ∀ j, j < a.length → 1 ≤ a.getD j 0 ∧ a.getD j 0 ≤ 16 := by
      rw [all_iff_get]
      exact ⟨fun h j hj => of_decide_eq_true (h j hj), fun h j hj => decide_eq_true (h j hj)⟩
    have fal : (∃ j, j < a.length ∧ taQ a b j = false) → allF (taQ a b) a.length 0 = false := by
      rintro ⟨j, hj, h⟩
      cases hq : allF (taQ a b) a.length 0 with
      | false => rfl
      | true => rw [allF_iff] at hq; rw [hq j hj (Nat.zero_le _)] at h; cases h
    cases ha : (a.all fun x => decide (1 ≤ x ∧ x ≤ 16)) with
    | false =>
      have : allF (taQ a b) a.length 0 = false := by
        cases hq : allF (taQ a b) a.length 0 with
        | false => rfl
        | true =>
          rw [allF_iff] at hq
          rw [ga.2 (fun j hj => by
            have := hq j hj (Nat.zero_le _)
            unfold taQ at this
            rw [Bool.and_eq_true, decide_eq_true_iff] at this
            exact this.1)] at ha
          cases ha
      rw [this, Bool.false_and, Bool.and_false]
      exact Ev.neg (by decide) (Ev.now _)
    | true =>
      have ha' := ga.1 ha
      refine Ev.pos rfl ?_
      refine Ev.bind (Ev.bind (iWsum a hl) (Ev.now _)) ?_
      by_cases g3 : wsum 0 a > 32
      · rw [decide_eq_false (show ¬ wsum 0 a ≤ 32 by omega), Bool.and_false, Bool.and_false]
        exact Ev.pos g3 (Ev.now _)
      refine Ev.neg g3 ?_
      rw [decide_eq_true (show wsum 0 a ≤ 32 by omega), Bool.and_true]
      by_cases hb : (b.length : Int) = (a.length : Int)
      · rw [decide_eq_true hb, Bool.true_and]
        refine Ev.pos hb (Ev.pos (by omega) ?_)
        have e0 : rd b 0 = b.getD 0 0 := rd_nat b 0
        rw [e0]
        by_cases h0 : b.getD 0 0 = 1
        · refine Ev.pos h0 (Ev.pos (by omega) (Ev.some ?_))
          rw [Option.some_inj, Bool.eq_iff_iff, all_iff_get, allF_iff, List.length_drop]
          have gd : ∀ j, (b.drop 1).getD j 0 = b.getD (1 + j) 0 := fun j => by rw [List.getD_eq_getElem?_getD, List.getElem?_drop, List.getD_eq_getElem?_getD]
          constructor
          · intro h j hj _
            unfold taQ
            rw [decide_eq_true (ha' j hj), Bool.true_and]
            by_cases hj0 : j = 0
            · subst hj0; rw [if_pos rfl]; exact decide_eq_true h0
            · rw [if_neg hj0]
              have := h (j - 1) (by omega)
              rw [gd, show 1 + (j - 1) = j by omega] at this
              exact this
          · intro h j hj
            have := h (1 + j) (by omega) (Nat.zero_le _)
            unfold taQ at this
            rw [Bool.and_eq_true, if_neg (by omega)] at this
            rw [gd]
            exact this.2
        · rw [fal ⟨0, by omega, by unfold taQ; rw [if_pos rfl, decide_eq_false h0, Bool.and_false]⟩]
          exact Ev.neg h0 (Ev.now _)
      · rw [decide_eq_false hb, Bool.false_and]
        exact Ev.neg hb (Ev.now _)
theorem and255 (x : Int) : 0 ≤ wrap64 (Go.bits .and .u64 x 255) ∧ wrap64 (Go.bits .and .u64 x 255) ≤ 255 := by
  have e : Go.bits .and .u64 x 255 = IntKind.u64.wrap ((BitVec.ofInt 64 x &&& BitVec.ofInt 64 255).toNat : Int) := rfl
  have h : (BitVec.ofInt 64 x &&& BitVec.ofInt 64 255).toNat ≤ 255 := by
    rw [BitVec.toNat_and]
    exact Nat.le_trans Nat.and_le_right (by decide)
  generalize (BitVec.ofInt 64 x &&& BitVec.ofInt 64 255).toNat = n at e h
  have e2 : IntKind.u64.wrap (n : Int) = n := by
    unfold IntKind.wrap
    simp [IntKind.bits, IntKind.signed]
    omega
  rw [e, e2, wid (by omega)]
  omega
def bytesB (l : List Int) : Prop := ∀ j, j < l.length → 0 ≤ l.getD j 0 ∧ l.getD j 0 ≤ 255
theorem next_ok (l : List Int) (hb : bytesB l) (a s : Int) (h0 : 0 ≤ a) (h1 : a ≤ 4000000000000000000) : ∃ v s', spec_l00Src_next.f l a s = some (v, a + 1, s') ∧ 0 ≤ v ∧ v ≤ 255 := by
  unfold spec_l00Src_next.f
  rw [wid (x := a + 1) (by omega)]
  by_cases c : a < (l.length : Int)
  · have q := hb a.toNat (by omega)
    have e : rd l a = l.getD a.toNat 0 := rfl
    rw [if_pos c, if_pos h0, if_pos (by omega), e, wid (x := l.getD a.toNat 0) (by omega)]
    exact ⟨_, _, rfl, q⟩
  · rw [if_neg c, if_neg (by omega)]
    exact ⟨_, _, rfl, and255 _⟩
theorem pick_ok (l : List Int) (hb : bytesB l) (a s n : Int) (h0 : 0 ≤ a) (h1 : a ≤ 3000000000000000000) (hn : n ≤ 1000000) : ∃ v a' s', spec_l00Src_pick.f l a s n = some (v, a', s') ∧ 0 ≤ v ∧ (v < n ∨ v = 0) ∧ a ≤ a' ∧ a' ≤ a + 2 := by
  unfold spec_l00Src_pick.f
  by_cases c : n ≤ 1
  · rw [if_pos c]; exact ⟨_, _, _, rfl, Int.le_refl _, .inr rfl, Int.le_refl _, by omega⟩
  rw [if_neg c]
  obtain ⟨v, s1, e1, v0, v1⟩ := next_ok l hb a s h0 (by omega)
  rw [e1]
  simp only [Option.bind_some]
  have tm : ∀ x : Int, 0 ≤ x → 0 ≤ Int.tmod x n ∧ Int.tmod x n < n := fun x hx => by
    rw [Int.tmod_eq_emod_of_nonneg hx]
    exact ⟨Int.emod_nonneg _ (by omega), Int.emod_lt_of_pos _ (by omega)⟩
  by_cases c2 : n > 200
  · rw [if_pos c2]
    obtain ⟨v', s2, e2, v0', v1'⟩ := next_ok l hb (a + 1) s1 (by omega) (by omega)
    rw [e2]
    simp only [Option.bind_some]
    rw [if_neg (by omega), wid (x := v * 256) (by omega), wid (x := v * 256 + v') (by omega)]
    have := tm (v * 256 + v') (by omega)
    exact ⟨_, _, _, rfl, this.1, .inl this.2, by omega, by omega⟩
  · rw [if_neg c2, if_neg (by omega)]
    have := tm v v0
    exact ⟨_, _, _, rfl, this.1, .inl this.2, by omega, by omega⟩
theorem one_ok (l : List Int) (hb : bytesB l) (a s n : Int) (h0 : 0 ≤ a) (h1 : a ≤ 3000000000000000000) (hn : n ≤ 1000000) : ∃ v a' s', spec_l00Src_one.f l a s n = some (v, a', s') ∧ a ≤ a' ∧ a' ≤ a + 2 := by
  unfold spec_l00Src_one.f
  obtain ⟨v, a', s', e, v0, v1, a0, a1⟩ := pick_ok l hb a s n h0 h1 hn
  rw [e]
  exact ⟨_, _, _, rfl, a0, a1⟩
theorem text_mem (l : List Int) (hb : bytesB l) (a s : Int) (m : List ByteArray) (h0 : 0 ≤ a) (h1 : a ≤ 3000000000000000000) (hm : 0 < m.length) (hm2 : m.length ≤ 1000000) : ∃ v a' s', spec_l00Src_text.f l a s m = some (v, a', s') ∧ v ∈ m ∧ a ≤ a' ∧ a' ≤ a + 2 := by
  unfold spec_l00Src_text.f
  obtain ⟨v, a', s', e, v0, v1, a0, a1⟩ := pick_ok l hb a s (m.length : Int) h0 h1 (by omega)
  rw [e]
  simp only [Option.bind_some]
  have hv : v < (m.length : Int) := by rcases v1 with h | h <;> omega
  rw [if_pos v0, if_pos hv]
  refine ⟨_, _, _, rfl, ?_, a0, a1⟩
  have e : rdOf ByteArray.empty m v = m.getD v.toNat ByteArray.empty := rfl
  rw [e, List.getD_eq_getElem?_getD, List.getElem?_eq_getElem (by omega)]
  exact List.getElem_mem _
theorem read6 (t : ByteArray) (ht : t ∈ ([(⟨#[116, 105, 110, 116, 97, 108, 32, 52, 88, 32, 52, 43, 32, 52, 111, 32, 52, 43]⟩ : ByteArray), (⟨#[106, 104, 97, 112, 116, 97, 108, 32, 50, 88, 32, 51, 43, 32, 50, 111, 32, 51, 43]⟩ : ByteArray), (⟨#[114, 117, 112, 97, 107, 32, 51, 88, 32, 50, 43, 32, 50, 43]⟩ : ByteArray), (⟨#[101, 107, 116, 97, 108, 32, 50, 88, 32, 50, 111, 32, 50, 43, 32, 50, 111, 32, 50, 43, 32, 50, 43]⟩ : ByteArray), (⟨#[100, 97, 100, 114, 97, 32, 51, 88, 32, 51, 111]⟩ : ByteArray), (⟨#[111, 110, 101, 32, 49, 88]⟩ : ByteArray)] : List ByteArray)) : ∃ nm S M, spec_l17Read.f 60 t = some (nm, S, M, true) ∧ talaB nm S M = true := by
  simp only [List.mem_cons, List.not_mem_nil, or_false] at ht
  rcases ht with rfl | rfl | rfl | rfl | rfl | rfl
  · exact ⟨⟨#[116, 105, 110, 116, 97, 108]⟩, [4, 4, 4, 4], [1, 2, 3, 2], by kernel_rfl, by kernel_rfl⟩
  · exact ⟨⟨#[106, 104, 97, 112, 116, 97, 108]⟩, [2, 3, 2, 3], [1, 2, 3, 2], by kernel_rfl, by kernel_rfl⟩
  · exact ⟨⟨#[114, 117, 112, 97, 107]⟩, [3, 2, 2], [1, 2, 2], by kernel_rfl, by kernel_rfl⟩
  · exact ⟨⟨#[101, 107, 116, 97, 108]⟩, [2, 2, 2, 2, 2, 2], [1, 3, 2, 3, 2, 2], by kernel_rfl, by kernel_rfl⟩
  · exact ⟨⟨#[100, 97, 100, 114, 97]⟩, [3, 3], [1, 3], by kernel_rfl, by kernel_rfl⟩
  · exact ⟨⟨#[111, 110, 101]⟩, [1], [1], by kernel_rfl, by kernel_rfl⟩
theorem wsum_app1 (x : Int) : ∀ (l : List Int) (s : Int), wsum s (l ++ [x]) = wrap64 (wsum s l + x)
  | [], s => rfl
  | y :: ys, s => wsum_app1 x ys (wrap64 (s + y))
theorem newTala (S M : List Int) (h1 : S.length = M.length) (h2 : 1 ≤ S.length) (h3 : S.length ≤ 4) (h4 : ∀ j, j < S.length → taQ S M j = true) (h5 : wsum 0 S ≤ 32) : talaB (⟨#[110, 101, 119]⟩ : ByteArray) S M = true := by
  unfold talaB
  rw [show nameB (⟨#[110, 101, 119]⟩ : ByteArray) = true by kernel_rfl, Bool.true_and, Bool.and_eq_true, Bool.and_eq_true, Bool.and_eq_true, decide_eq_true_iff, decide_eq_true_iff, decide_eq_true_iff]
  exact ⟨by omega, by omega, (allF_iff _).2 fun j hj _ => h4 j hj, h5⟩
theorem taQ_app {S M : List Int} {x y : Int} (h1 : S.length = M.length) (h2 : 1 ≤ S.length) (h4 : ∀ j, j < S.length → taQ S M j = true) (hx : 1 ≤ x ∧ x ≤ 16) (hy : 2 ≤ y ∧ y ≤ 3) : ∀ j, j < (S ++ [x]).length → taQ (S ++ [x]) (M ++ [y]) j = true := by
  intro j hj
  rw [List.length_append, List.length_singleton] at hj
  by_cases e : j = S.length
  · subst e
    unfold taQ
    have e1 : (S ++ [x]).getD S.length 0 = x := by rw [List.getD_eq_getElem?_getD, List.getElem?_append_right (Nat.le_refl _), Nat.sub_self]; rfl
    have e2 : (M ++ [y]).getD S.length 0 = y := by rw [h1, List.getD_eq_getElem?_getD, List.getElem?_append_right (Nat.le_refl _), Nat.sub_self]; rfl
    rw [e1, e2, if_neg (by omega), Bool.and_eq_true, decide_eq_true_iff, decide_eq_true_iff]
    exact ⟨hx, hy⟩
  · have := h4 j (by omega)
    unfold taQ at this ⊢
    have e1 : (S ++ [x]).getD j 0 = S.getD j 0 := by rw [List.getD_eq_getElem?_getD, List.getElem?_append_left (by omega), ← List.getD_eq_getElem?_getD]
    have e2 : (M ++ [y]).getD j 0 = M.getD j 0 := by rw [List.getD_eq_getElem?_getD, List.getElem?_append_left (by omega), ← List.getD_eq_getElem?_getD]
    rw [e1, e2]; exact this
theorem draw17_l0 (l : List Int) (hb : bytesB l) (d : Nat) : ∀ (v : Int) (S M : List Int) (a s : Int), v = d → S.length + d ≤ 4 → S.length = M.length → 1 ≤ S.length → (∀ j, j < S.length → taQ S M j = true) → wsum 0 S + 6 * d ≤ 32 → 0 ≤ wsum 0 S → 0 ≤ a → a ≤ 1000000 - 8 * (d : Int) → ∃ (S' M' : List Int) (a' s' : Int), talaB (⟨#[110, 101, 119]⟩ : ByteArray) S' M' = true ∧ Ev (fun k => spec_l17Draw.l0 k v l a s (⟨#[110, 101, 119]⟩ : ByteArray) S M) ((⟨#[110, 101, 119]⟩ : ByteArray), S', M', a', s') := by
  induction d with
  | zero =>
    intro v S M a s hv h1 h2 h3 h4 h5 h6 h7 h8
    refine ⟨S, M, a, s, newTala S M h2 h3 (by omega) h4 (by omega), Ev.shift ?_⟩
    simp only [spec_l17Draw.l0]
    exact Ev.neg (by omega) (Ev.now _)
  | succ d ih =>
    intro v S M a s hv h1 h2 h3 h4 h5 h6 h7 h8
    obtain ⟨x, a1, s1, e1, x0, x1, b1, b2⟩ := pick_ok l hb a s 6 h7 (by omega) (by omega)
    obtain ⟨y, a2, s2, e2, y0, y1, b3, b4⟩ := pick_ok l hb a1 s1 2 (by omega) (by omega) (by omega)
    have hx : x < 6 := by rcases x1 with h | h <;> omega
    have hy : y < 2 := by rcases y1 with h | h <;> omega
    have w1 : wrap64 (1 + x) = 1 + x := wid (by omega)
    have w2 : wrap64 (2 + y) = 2 + y := wid (by omega)
    have w3 : wrap64 (v - 1) = v - 1 := wid (by omega)
    have hs : wsum 0 (S ++ [1 + x]) = wsum 0 S + (1 + x) := by rw [wsum_app1, wid (by omega)]
    obtain ⟨S', M', a', s', q1, q2⟩ := ih (v - 1) (S ++ [1 + x]) (M ++ [2 + y]) a2 s2 (by omega) (by rw [List.length_append, List.length_singleton]; omega) (by rw [List.length_append, List.length_append, List.length_singleton, List.length_singleton]; omega) (by rw [List.length_append, List.length_singleton]; omega) (taQ_app h2 h3 h4 (by omega) (by omega)) (by rw [hs]; omega) (by rw [hs]; omega) (by omega) (by omega)
    refine ⟨S', M', a', s', q1, Ev.shift ?_⟩
    simp only [spec_l17Draw.l0, e1, e2, Option.bind_some, w1, w2, w3]
    exact Ev.pos (by omega) (Ev.pos (by omega) (Ev.pos (by omega) q2))
theorem draw17 (l : List Int) (hb : bytesB l) (a s : Int) (h0 : 0 ≤ a) (h1 : a ≤ 1000) : ∃ (nm : ByteArray) (S M : List Int) (a' s' : Int), talaB nm S M = true ∧ Ev (fun k => spec_l17Draw.f k l a s) (nm, S, M, a', s') := by
  unfold spec_l17Draw.f
  obtain ⟨t, a1, s1, e1, ht, b1, b2⟩ := text_mem l hb a s _ h0 (by omega) (show 0 < ([(⟨#[116, 105, 110, 116, 97, 108, 32, 52, 88, 32, 52, 43, 32, 52, 111, 32, 52, 43]⟩ : ByteArray), (⟨#[106, 104, 97, 112, 116, 97, 108, 32, 50, 88, 32, 51, 43, 32, 50, 111, 32, 51, 43]⟩ : ByteArray), (⟨#[114, 117, 112, 97, 107, 32, 51, 88, 32, 50, 43, 32, 50, 43]⟩ : ByteArray), (⟨#[101, 107, 116, 97, 108, 32, 50, 88, 32, 50, 111, 32, 50, 43, 32, 50, 111, 32, 50, 43, 32, 50, 43]⟩ : ByteArray), (⟨#[100, 97, 100, 114, 97, 32, 51, 88, 32, 51, 111]⟩ : ByteArray), (⟨#[111, 110, 101, 32, 49, 88]⟩ : ByteArray)] : List ByteArray).length by simp) (by simp)
  obtain ⟨nm, S, M, hr, htb⟩ := read6 t ht
  have hrd : Ev (fun k => spec_l17Read.f k t) (nm, S, M, true) := Ev.of (fun k => spec_l17Read.mono t k) hr
  obtain ⟨v, a2, s2, e2, b3, b4⟩ := one_ok l hb a1 s1 4 (by omega) (by omega) (by omega)
  rw [e1]
  simp only [Option.bind_some]
  cases v with
  | false =>
    refine ⟨nm, S, M, a2, s2, htb, Ev.bind hrd (Ev.pos rfl ?_)⟩
    rw [e2]
    simp only [Option.bind_some]
    refine Ev.shift ?_
    simp only [spec_l17Draw.j0]
    exact Ev.neg (by simp) (Ev.now _)
  | true =>
    obtain ⟨x, a3, s3, e3, x0, x1, b5, b6⟩ := pick_ok l hb a2 s2 8 (by omega) (by omega) (by omega)
    obtain ⟨v, a4, s4, e4, v0, v1, b7, b8⟩ := pick_ok l hb a3 s3 4 (by omega) (by omega) (by omega)
    have hx : x < 8 := by rcases x1 with h | h <;> omega
    have hv : v < 4 := by rcases v1 with h | h <;> omega
    have w1 : wrap64 (1 + x) = 1 + x := wid (by omega)
    have hs : wsum 0 [1 + x] = 1 + x := by show wrap64 (0 + (1 + x)) = _; rw [wid (by omega)]; omega
    obtain ⟨S', M', a', s', q1, q2⟩ := draw17_l0 l hb v.toNat v [1 + x] [1] a4 s4 (by omega) (by simp; omega) rfl (by simp) (fun j hj => by
      have : j = 0 := by simpa using hj
      subst this
      unfold taQ
      rw [if_pos rfl, Bool.and_eq_true, decide_eq_true_iff, decide_eq_true_iff]
      exact ⟨by simp; omega, rfl⟩) (by rw [hs]; omega) (by rw [hs]; omega) (by omega) (by omega)
    refine ⟨_, S', M', a', s', q1, Ev.bind hrd (Ev.pos rfl ?_)⟩
    rw [e2]
    simp only [Option.bind_some]
    refine Ev.shift ?_
    simp only [spec_l17Draw.j0, e3, e4, Option.bind_some, w1]
    exact Ev.pos trivial q2
theorem rTala (l : List Int) (hb : bytesB l) : ∃ nm S M, talaB nm S M = true ∧ Ev (fun k => spec_R8Tala.f k l) (nm, S, M) := by
  obtain ⟨nm, S, M, a', s', h1, h2⟩ := draw17 l hb 0 0 (Int.le_refl _) (by omega)
  refine ⟨nm, S, M, h1, ?_⟩
  unfold spec_R8Tala.f spec_l00From.f
  simp only [Option.bind_some]
  exact Ev.bind h2 (Ev.now _)
theorem talaB_len {s : ByteArray} {a b : List Int} (h : talaB s a b = true) : (1 ≤ a.length ∧ a.length ≤ 8) ∧ ∀ j, j < a.length → 1 ≤ a.getD j 0 ∧ a.getD j 0 ≤ 16 := by
  unfold talaB at h
  rw [Bool.and_eq_true, Bool.and_eq_true, Bool.and_eq_true, Bool.and_eq_true, decide_eq_true_iff, decide_eq_true_iff, allF_iff] at h
  obtain ⟨_, h1, _, h2, _⟩ := h
  refine ⟨by omega, fun j hj => ?_⟩
  have := h2 j hj (Nat.zero_le _)
  unfold taQ at this
  rw [Bool.and_eq_true, decide_eq_true_iff] at this
  exact this.1
theorem iBeatsB (s : ByteArray) (a b : List Int) (ha : a.length ≤ 35184372088832) : Ev (fun k => impl_Tala_beats.f k s a b) (wsum 0 a) := by
  unfold impl_Tala_beats.f
  exact Ev.bind (iWsum a ha) (Ev.now _)
theorem uB {s : ByteArray} {a b : List Int} {x : Int} (ht : talaB s a b = true) (hx : 1 ≤ x ∧ x ≤ 8) : wrap64 (wsum 0 a * x) = wsum 0 a * x ∧ 1 ≤ wsum 0 a * x ∧ wsum 0 a * x ≤ 256 := by
  have hsum := talaB_sum ht
  have m1 : wsum 0 a * x ≤ 32 * 8 := Int.mul_le_mul hsum.2 hx.2 (by omega) (by omega)
  have m2 : 1 * 1 ≤ wsum 0 a * x := Int.mul_le_mul hsum.1 hx.1 (by omega) (by omega)
  exact ⟨wid (by omega), by omega, by omega⟩
theorem beatB (s : ByteArray) (a b : List Int) (ht : talaB s a b = true) : Ev (fun k => spec_BeatCount.f k s a b) (wsum 0 a, 0) := by
  have hl := (talaB_len ht).1
  have h1 := sTala s a b (by omega)
  rw [ht] at h1
  unfold spec_BeatCount.f spec_l17Beats.f
  exact Ev.bind h1 (Ev.pos rfl (Ev.bind (Ev.bind (sWsum a (by omega)) (Ev.now _)) (Ev.now _)))
theorem atB (l : List Int) (hb : bytesB l) (i n : Int) (hi : 0 ≤ i) (hn : 2 ≤ n ∧ n ≤ 1000) : ∃ t, laws_r8At.f l i n = some t ∧ 0 ≤ t ∧ t < n := by
  unfold laws_r8At.f
  rw [if_neg (by omega)]
  by_cases c : i ≥ (l.length : Int)
  · rw [if_pos c]; exact ⟨0, rfl, by omega, by omega⟩
  · obtain ⟨j, rfl⟩ := Int.eq_ofNat_of_zero_le hi
    have q := hb j (by omega)
    have e : rd l (j : Int) = l.getD j 0 := rd_nat l j
    rw [if_neg c, if_pos (by omega), if_pos (by omega), if_neg (by omega), e, wid (x := l.getD j 0) (by omega)]
    refine ⟨_, rfl, ?_⟩
    rw [Int.tmod_eq_emod_of_nonneg q.1]
    exact ⟨Int.emod_nonneg _ (by omega), Int.emod_lt_of_pos _ (by omega)⟩
theorem cTot (p g : Int) (hp : 0 ≤ p ∧ p ≤ 1000) (hg : 0 ≤ g ∧ g ≤ 1000) : wrap64 (wrap64 (3 * p) + wrap64 (2 * g)) = 3 * p + 2 * g := by
  rw [wid (x := 3 * p) (by omega), wid (x := 2 * g) (by omega), wid (by omega)]
theorem cCode (s : ByteArray) (a b : List Int) (x st p g h : Int) (ht : talaB s a b = true) (hx : 1 ≤ x ∧ x ≤ 8) (hs : 0 ≤ st ∧ st < wsum 0 a * x) (hp : 1 ≤ p ∧ p ≤ 64) (hg : 0 ≤ g ∧ g ≤ 32) (hh : 0 ≤ h ∧ h ≤ 64) : Ev (fun k => impl_cadenceCode.f k s a b x st p g h) 0 := by
  obtain ⟨w, u1, u2⟩ := uB ht hx
  have hl := (talaB_len ht).1
  have h2 := iTala s a b (by omega)
  rw [ht] at h2
  unfold impl_cadenceCode.f
  simp only [within_eq, Option.bind_some]
  refine Ev.bind h2 (Ev.pos rfl (Ev.pos (decide_eq_true hx) (Ev.bind (iBeatsB s a b (by omega)) ?_)))
  simp only [w]
  generalize wsum 0 a * x = u at *
  have w1 : wrap64 (u - 1) = u - 1 := wid (by omega)
  simp only [w1]
  exact Ev.pos (decide_eq_true (by omega)) (Ev.pos (decide_eq_true hp) (Ev.pos (decide_eq_true hg) (Ev.pos (decide_eq_true hh) (Ev.now _))))
theorem cEnds (s : ByteArray) (a b : List Int) (x st t : Int) (ht : talaB s a b = true) (hx : 1 ≤ x ∧ x ≤ 8) (hs : 0 ≤ st ∧ st < wsum 0 a * x) (h1 : 1 ≤ t ∧ t ≤ 100000) : Ev (fun k => impl_Tala_endsOnSam.f k s a b x st t) (decide ((st + t - 1) % (wsum 0 a * x) = 0)) := by
  obtain ⟨w, u1, u2⟩ := uB ht hx
  have hl := (talaB_len ht).1
  unfold impl_Tala_endsOnSam.f
  refine Ev.bind (iBeatsB s a b (by omega)) ?_
  simp only [w]
  generalize wsum 0 a * x = u at *
  have w1 : wrap64 (st + t) = st + t := wid (by omega)
  have w2 : wrap64 (st + t - 1) = st + t - 1 := wid (by omega)
  have w3 : Int.tmod (st + t - 1) u = (st + t - 1) % u := Int.tmod_eq_emod_of_nonneg (by omega)
  simp only [w1, w2, w3]
  refine Ev.neg (by omega) (Ev.some ?_)
  rfl
theorem cIs (s : ByteArray) (a b : List Int) (x st p g : Int) (ht : talaB s a b = true) (hx : 1 ≤ x ∧ x ≤ 8) (hs : 0 ≤ st ∧ st < wsum 0 a * x) (hp : 1 ≤ p ∧ p ≤ 64) (hg : 0 ≤ g ∧ g ≤ 32) : Ev (fun k => impl_IsCadence.f k s a b x st p g) (decide ((st + (3 * p + 2 * g) - 1) % (wsum 0 a * x) = 0)) := by
  unfold impl_IsCadence.f
  simp only [cTot p g (by omega) (by omega)]
  exact Ev.bind (cCode s a b x st p g 0 ht hx hs hp hg (by omega)) (Ev.pos rfl (Ev.bind (cEnds s a b x st _ ht hx hs (by omega)) (Ev.now _)))
theorem cSam (s : ByteArray) (a b : List Int) (x st t : Int) (ht : talaB s a b = true) (hx : 1 ≤ x ∧ x ≤ 8) (hs : 0 ≤ st ∧ st < wsum 0 a * x) (h1 : 1 ≤ t ∧ t ≤ 100000) : Ev (fun k => impl_EndsOnSam.f k s a b x st t) (decide ((st + t - 1) % (wsum 0 a * x) = 0)) := by
  unfold impl_EndsOnSam.f
  simp only [within_eq, Option.bind_some]
  exact Ev.bind (cCode s a b x st 1 0 0 ht hx hs (by omega) (by omega) (by omega)) (Ev.pos rfl (Ev.pos (decide_eq_true (by omega)) (Ev.bind (cEnds s a b x st _ ht hx hs h1) (Ev.now _))))
theorem cStart (s : ByteArray) (a b : List Int) (x p g : Int) (ht : talaB s a b = true) (hx : 1 ≤ x ∧ x ≤ 8) (hp : 1 ≤ p ∧ p ≤ 64) (hg : 0 ≤ g ∧ g ≤ 32) : Ev (fun k => impl_CadenceStart.f k s a b x p g) ((wsum 0 a * x - (3 * p + 2 * g - 1) % (wsum 0 a * x)) % (wsum 0 a * x), 0) := by
  have hu := uB ht hx
  have hl := (talaB_len ht).1
  have hc := cCode s a b x 0 p g 0 ht hx (by omega) hp hg (by omega)
  obtain ⟨w, u1, u2⟩ := hu
  unfold impl_CadenceStart.f impl_Tala_startFor.f
  simp only [cTot p g (by omega) (by omega)]
  refine Ev.bind hc (Ev.pos rfl (Ev.bind (Ev.bind (iBeatsB s a b (by omega)) ?_) (Ev.now _)))
  simp only [w]
  generalize wsum 0 a * x = u at *
  have w1 : wrap64 (3 * p + 2 * g - 1) = 3 * p + 2 * g - 1 := wid (by omega)
  have w3 : Int.tmod (3 * p + 2 * g - 1) u = (3 * p + 2 * g - 1) % u := Int.tmod_eq_emod_of_nonneg (by omega)
  have t2 := Int.emod_nonneg (3 * p + 2 * g - 1) (show u ≠ 0 by omega)
  have t3 := Int.emod_lt_of_pos (3 * p + 2 * g - 1) (show 0 < u by omega)
  simp only [w1, w3]
  generalize (3 * p + 2 * g - 1) % u = m at *
  have w4 : wrap64 (u - m) = u - m := wid (by omega)
  have w5 : Int.tmod (u - m) u = (u - m) % u := Int.tmod_eq_emod_of_nonneg (by omega)
  simp only [w4, w5]
  exact Ev.neg (by omega) (Ev.now _)
theorem sIs (s : ByteArray) (a b : List Int) (x st p g : Int) (ht : talaB s a b = true) (hx : 1 ≤ x ∧ x ≤ 8) (hs : 0 ≤ st ∧ st < wsum 0 a * x) (hp : 1 ≤ p ∧ p ≤ 64) (hg : 0 ≤ g ∧ g ≤ 32) : Ev (fun k => spec_IsCadence.f k s a b x st p g) (decide ((st + (3 * p + 2 * g) - 1) % (wsum 0 a * x) = 0)) := by
  obtain ⟨w, u1, u2⟩ := uB ht hx
  have hl := (talaB_len ht).1
  have h1 := sTala s a b (by omega)
  rw [ht] at h1
  have hU : Ev (fun k => spec_l19Units.f k s a b x) (wsum 0 a * x, s) := by
    unfold spec_l19Units.f spec_l17Beats.f
    refine Ev.bind (Ev.bind (sWsum a (by omega)) (Ev.now _)) ?_
    simp only [w]
    exact Ev.now _
  have hS : Ev (fun k => spec_l19Start.f k s a b x st) (0, s) := by
    unfold spec_l19Start.f spec_l19Ask.f
    simp only [in_eq, Option.bind_some]
    refine Ev.bind (Ev.bind h1 (Ev.pos rfl (Ev.pos (decide_eq_true hx) (Ev.now _)))) (Ev.pos rfl (Ev.bind hU ?_))
    have w1 : wrap64 (wsum 0 a * x - 1) = wsum 0 a * x - 1 := wid (by omega)
    simp only [w1]
    exact Ev.pos (decide_eq_true (by omega)) (Ev.now _)
  have hE : Ev (fun k => spec_l19Ends.f k s a b x st (3 * p + 2 * g)) (decide ((st + (3 * p + 2 * g) - 1) % (wsum 0 a * x) = 0), s) := by
    unfold spec_l19Ends.f
    refine Ev.bind hU ?_
    generalize wsum 0 a * x = u at *
    have w1 : wrap64 (st + (3 * p + 2 * g)) = st + (3 * p + 2 * g) := wid (by omega)
    have w2 : wrap64 (st + (3 * p + 2 * g) - 1) = st + (3 * p + 2 * g) - 1 := wid (by omega)
    have w3 : Int.tmod (st + (3 * p + 2 * g) - 1) u = (st + (3 * p + 2 * g) - 1) % u := Int.tmod_eq_emod_of_nonneg (by omega)
    simp only [w1, w2, w3]
    exact Ev.neg (by omega) (Ev.some rfl)
  unfold spec_IsCadence.f spec_l19Phrase.f spec_l19Gap.f spec_l19Total.f
  simp only [in_eq, Option.bind_some, cTot p g (by omega) (by omega)]
  exact Ev.bind hS (Ev.pos rfl (Ev.pos (decide_eq_true hp) (Ev.pos (decide_eq_true hg) (Ev.bind hE (Ev.now _)))))
theorem leastB (F : Nat → Int → Option Bool) (P : Int → Prop) [DecidablePred P] (m : Int) (d : Nat) : ∀ n : Int, n ≤ m → m < n + d → P m → (∀ i, n ≤ i → i ≤ m → Ev (fun k => F k i) (decide (P i))) → ∃ r, n ≤ r ∧ r ≤ m ∧ P r ∧ Ev (fun k => least_l (F k) d n) (r, true) := by
  induction d with
  | zero => intro n h1 h2; omega
  | succ d ih =>
    intro n h1 h2 hp hF
    have h0 := hF n (Int.le_refl _) h1
    unfold least_l
    by_cases c : P n
    · rw [decide_eq_true c] at h0
      exact ⟨n, Int.le_refl _, h1, c, Ev.bind h0 (Ev.pos rfl (Ev.now _))⟩
    · rw [decide_eq_false c] at h0
      have hn : n ≠ m := fun e => c (e ▸ hp)
      obtain ⟨r, r1, r2, r3, r4⟩ := ih (n + 1) (by omega) (by omega) hp (fun i a b => hF i (by omega) b)
      exact ⟨r, by omega, r2, r3, Ev.bind h0 (Ev.neg (by simp) r4)⟩
theorem gapB (s : ByteArray) (a b : List Int) (x st p g : Int) (ht : talaB s a b = true) (hx : 1 ≤ x ∧ x ≤ 8) (hs : 0 ≤ st ∧ st < wsum 0 a * x) (hp : 1 ≤ p ∧ p ≤ 64) (hg : 0 ≤ g ∧ g ≤ 32) (he : (st + (3 * p + 2 * g) - 1) % (wsum 0 a * x) = 0) : ∃ r, 0 ≤ r ∧ r ≤ g ∧ (st + (3 * p + 2 * r) - 1) % (wsum 0 a * x) = 0 ∧ Ev (fun k => impl_GapFor.f k s a b x st p) (r, 0) := by
  obtain ⟨r, r1, r2, r3, r4⟩ := leastB (fun k => gp_F k s a b x st p) (fun n => (st + (3 * p + 2 * n) - 1) % (wsum 0 a * x) = 0) g 33 0 (by omega) (by omega) he (fun i h1 h2 => by
    unfold gp_F
    simp only [cTot p i (by omega) (by omega)]
    exact cEnds s a b x st _ ht hx hs (by omega))
  refine ⟨r, r1, r2, r3, ?_⟩
  unfold impl_GapFor.f impl_orNotFound.f
  exact Ev.bind (cCode s a b x st p 0 0 ht hx hs hp (by omega) (by omega)) (Ev.pos rfl (Ev.bind r4 (Ev.pos rfl (Ev.now _))))
theorem phraseB (s : ByteArray) (a b : List Int) (x st p g : Int) (ht : talaB s a b = true) (hx : 1 ≤ x ∧ x ≤ 8) (hs : 0 ≤ st ∧ st < wsum 0 a * x) (hp : 1 ≤ p ∧ p ≤ 64) (hg : 0 ≤ g ∧ g ≤ 32) (he : (st + (3 * p + 2 * g) - 1) % (wsum 0 a * x) = 0) : ∃ r, 1 ≤ r ∧ r ≤ p ∧ (st + (3 * r + 2 * g) - 1) % (wsum 0 a * x) = 0 ∧ Ev (fun k => impl_PhraseFor.f k s a b x st g) (r, 0) := by
  obtain ⟨r, r1, r2, r3, r4⟩ := leastB (fun k => pf_F k s a b x st g) (fun n => (st + (3 * n + 2 * g) - 1) % (wsum 0 a * x) = 0) p 64 1 (by omega) (by omega) he (fun i h1 h2 => by
    unfold pf_F
    simp only [cTot i g (by omega) (by omega)]
    exact cEnds s a b x st _ ht hx hs (by omega))
  refine ⟨r, r1, r2, r3, ?_⟩
  unfold impl_PhraseFor.f impl_orNotFound.f
  exact Ev.bind (cCode s a b x st 1 g 0 ht hx hs (by omega) hg (by omega)) (Ev.pos rfl (Ev.bind r4 (Ev.pos rfl (Ev.now _))))
theorem placesB (s : ByteArray) (a b : List Int) (x st p g : Int) (ht : talaB s a b = true) (hx : 1 ≤ x ∧ x ≤ 8) (hs : 0 ≤ st ∧ st < wsum 0 a * x) (hp : 1 ≤ p ∧ p ≤ 64) (hg : 0 ≤ g ∧ g ≤ 32) (he : (st + (3 * p + 2 * g) - 1) % (wsum 0 a * x) = 0) : Ev (fun k => impl_PlacesOf.f k s a b x st p g) ([st, st + p + g, st + 2 * (p + g), st + (3 * p + 2 * g) - 1], 0) := by
  have hu := uB ht hx
  have h1 := cEnds s a b x st (3 * p + 2 * g) ht hx hs (by omega)
  rw [decide_eq_true he] at h1
  have hc := cCode s a b x st p g 0 ht hx hs hp hg (by omega)
  generalize wsum 0 a * x = u at *
  have w1 : wrap64 (wrap64 (st + p) + g) = st + p + g := by rw [wid (x := st + p) (by omega), wid (by omega)]
  have w2 : wrap64 (st + wrap64 (2 * wrap64 (p + g))) = st + 2 * (p + g) := by rw [wid (x := p + g) (by omega), wid (x := 2 * (p + g)) (by omega), wid (by omega)]
  have w3 : wrap64 (wrap64 (st + (3 * p + 2 * g)) - 1) = st + (3 * p + 2 * g) - 1 := by rw [wid (x := st + (3 * p + 2 * g)) (by omega), wid (by omega)]
  unfold impl_PlacesOf.f
  simp only [cTot p g (by omega) (by omega), w1, w2, w3]
  exact Ev.bind hc (Ev.pos rfl (Ev.bind h1 (Ev.pos rfl (Ev.now _))))
theorem samsB (s : ByteArray) (a b : List Int) (x st p g : Int) (ht : talaB s a b = true) (hx : 1 ≤ x ∧ x ≤ 8) (hs : 0 ≤ st ∧ st < wsum 0 a * x) (hp : 1 ≤ p ∧ p ≤ 64) (hg : 0 ≤ g ∧ g ≤ 32) (he : (st + (3 * p + 2 * g) - 1) % (wsum 0 a * x) = 0) : Ev (fun k => impl_SamsPassed.f k s a b x st p g) ((st + (3 * p + 2 * g) - 1) / (wsum 0 a * x), 0) := by
  have hl := (talaB_len ht).1
  have hP := placesB s a b x st p g ht hx hs hp hg he
  obtain ⟨w, u1, u2⟩ := uB ht hx
  unfold impl_SamsPassed.f
  refine Ev.bind hP (Ev.pos rfl (Ev.pos (by simp) (Ev.bind (iBeatsB s a b (by omega)) ?_)))
  simp only [w]
  generalize wsum 0 a * x = u at *
  have e : rd [st, st + p + g, st + 2 * (p + g), st + (3 * p + 2 * g) - 1] 3 = st + (3 * p + 2 * g) - 1 := rfl
  have h1 : Int.tdiv (st + (3 * p + 2 * g) - 1) u = (st + (3 * p + 2 * g) - 1) / u := Int.tdiv_eq_ediv_of_nonneg (by omega)
  have q1 := Int.ediv_nonneg (show 0 ≤ st + (3 * p + 2 * g) - 1 by omega) (show 0 ≤ u by omega)
  have q2 := Int.ediv_le_self u (show 0 ≤ st + (3 * p + 2 * g) - 1 by omega)
  simp only [e, h1, wid (x := (st + (3 * p + 2 * g) - 1) / u) (by omega)]
  exact Ev.neg (by omega) (Ev.now _)
/-! the cadences of a start -/
def rowL (u st p : Int) : Nat → Int → List (List Int)
  | 0, _ => []
  | d + 1, g => (if (st + (3 * p + 2 * g) - 1) % u = 0 then [[p, g]] else []) ++ rowL u st p d (g + 1)
def allL (u st : Int) : Nat → Int → List (List Int)
  | 0, _ => []
  | d + 1, p => rowL u st p 4 0 ++ allL u st d (p + 1)
theorem rowL_mem (u st p : Int) (d : Nat) : ∀ g : Int, (rowL u st p d g).length ≤ d ∧ ∀ r ∈ rowL u st p d g, ∃ h, r = [p, h] ∧ g ≤ h ∧ h < g + d ∧ (st + (3 * p + 2 * h) - 1) % u = 0 := by
  induction d with
  | zero => intro g; exact ⟨Nat.le_refl _, fun r hr => by simp [rowL] at hr⟩
  | succ d ih =>
    intro g
    obtain ⟨i1, i2⟩ := ih (g + 1)
    unfold rowL
    by_cases c : (st + (3 * p + 2 * g) - 1) % u = 0
    · rw [if_pos c]
      refine ⟨by rw [List.length_append, List.length_singleton]; omega, fun r hr => ?_⟩
      rcases List.mem_append.1 hr with h | h
      · exact ⟨g, List.mem_singleton.1 h, by omega, by omega, c⟩
      · obtain ⟨y, y1, y2, y3, y4⟩ := i2 r h
        exact ⟨y, y1, by omega, by omega, y4⟩
    · rw [if_neg c, List.nil_append]
      refine ⟨by omega, fun r hr => ?_⟩
      obtain ⟨y, y1, y2, y3, y4⟩ := i2 r hr
      exact ⟨y, y1, by omega, by omega, y4⟩
theorem allL_mem (u st : Int) (d : Nat) : ∀ p : Int, (allL u st d p).length ≤ 4 * d ∧ ∀ r ∈ allL u st d p, ∃ q h, r = [q, h] ∧ p ≤ q ∧ q < p + d ∧ 0 ≤ h ∧ h ≤ 3 ∧ (st + (3 * q + 2 * h) - 1) % u = 0 := by
  induction d with
  | zero => intro p; exact ⟨Nat.le_refl _, fun r hr => by simp [allL] at hr⟩
  | succ d ih =>
    intro p
    obtain ⟨i1, i2⟩ := ih (p + 1)
    obtain ⟨j1, j2⟩ := rowL_mem u st p 4 0
    unfold allL
    refine ⟨by rw [List.length_append]; omega, fun r hr => ?_⟩
    rcases List.mem_append.1 hr with h | h
    · obtain ⟨y, y1, y2, y3, y4⟩ := j2 r h
      exact ⟨p, y, y1, by omega, by omega, by omega, by omega, y4⟩
    · obtain ⟨q, y, y1, y2, y3, y4⟩ := i2 r h
      exact ⟨q, y, y1, by omega, by omega, y4⟩
theorem iCad_l1 (s : ByteArray) (a b : List Int) (x st p : Int) (ht : talaB s a b = true) (hx : 1 ≤ x ∧ x ≤ 8) (hs : 0 ≤ st ∧ st < wsum 0 a * x) (hp : 1 ≤ p ∧ p ≤ 6) (R : List (List Int)) (d : Nat) : ∀ (g : Int) (acc : List (List Int)), 0 ≤ g → g + d = 4 → acc.length + d ≤ 1000 → Ev (fun k => impl_Tala_cadences.l0 k x st 6 3 (acc ++ rowL (wsum 0 a * x) st p d g) (p + 1) s a b) R → Ev (fun k => impl_Tala_cadences.l1 k x st 6 3 acc p g s a b) R := by
  induction d with
  | zero =>
    intro g acc h0 h1 h2 h3
    refine Ev.shift ?_
    simp only [impl_Tala_cadences.l1, wid (show -9223372036854775808 ≤ p + 1 ∧ p + 1 ≤ 9223372036854775807 by omega)]
    rw [rowL, List.append_nil] at h3
    exact Ev.neg (by omega) h3
  | succ d ih =>
    intro g acc h0 h1 h2 h3
    have hE := cEnds s a b x st (3 * p + 2 * g) ht hx hs (by omega)
    refine Ev.shift ?_
    simp only [impl_Tala_cadences.l1, cTot p g (by omega) (by omega), wid (show -9223372036854775808 ≤ g + 1 ∧ g + 1 ≤ 9223372036854775807 by omega)]
    refine Ev.pos (by omega) (Ev.bind hE ?_)
    rw [rowL, ← List.append_assoc] at h3
    by_cases c : (st + (3 * p + 2 * g) - 1) % (wsum 0 a * x) = 0
    · rw [if_pos c] at h3
      rw [decide_eq_true c]
      exact Ev.pos rfl (Ev.pos (by omega) (ih (g + 1) _ (by omega) (by omega) (by rw [List.length_append, List.length_singleton]; omega) h3))
    · rw [if_neg c, List.append_nil] at h3
      rw [decide_eq_false c]
      exact Ev.neg (by simp) (ih (g + 1) acc (by omega) (by omega) (by omega) h3)
theorem iCad_l0 (s : ByteArray) (a b : List Int) (x st : Int) (ht : talaB s a b = true) (hx : 1 ≤ x ∧ x ≤ 8) (hs : 0 ≤ st ∧ st < wsum 0 a * x) (d : Nat) : ∀ (p : Int) (acc : List (List Int)), 1 ≤ p → p + d = 7 → acc.length + 4 * d ≤ 900 → Ev (fun k => impl_Tala_cadences.l0 k x st 6 3 acc p s a b) (acc ++ allL (wsum 0 a * x) st d p) := by
  induction d with
  | zero =>
    intro p acc h0 h1 h2
    refine Ev.shift ?_
    simp only [impl_Tala_cadences.l0]
    rw [allL, List.append_nil]
    exact Ev.neg (by omega) (Ev.now _)
  | succ d ih =>
    intro p acc h0 h1 h2
    refine Ev.shift ?_
    simp only [impl_Tala_cadences.l0]
    rw [allL, ← List.append_assoc]
    have hr := (rowL_mem (wsum 0 a * x) st p 4 0).1
    exact Ev.pos (by omega) (iCad_l1 s a b x st p ht hx hs (by omega) _ 4 0 acc (by omega) (by omega) (by omega) (ih (p + 1) _ (by omega) (by omega) (by rw [List.length_append]; omega)))
theorem iCad (s : ByteArray) (a b : List Int) (x st : Int) (ht : talaB s a b = true) (hx : 1 ≤ x ∧ x ≤ 8) (hs : 0 ≤ st ∧ st < wsum 0 a * x) : Ev (fun k => impl_Tala_cadences.f k s a b x st 6 3) (allL (wsum 0 a * x) st 6 1) :=
  iCad_l0 s a b x st ht hx hs 6 1 [] (by omega) (by omega) (by simp)
theorem countB (s : ByteArray) (a b : List Int) (x st : Int) (ht : talaB s a b = true) (hx : 1 ≤ x ∧ x ≤ 8) (hs : 0 ≤ st ∧ st < wsum 0 a * x) : Ev (fun k => impl_CountCadences.f k s a b x st 6 3) (((allL (wsum 0 a * x) st 6 1).length : Int), 0) := by
  unfold impl_CountCadences.f
  exact Ev.bind (cCode s a b x st 6 3 0 ht hx hs (by omega) (by omega) (by omega)) (Ev.pos rfl (Ev.bind (iCad s a b x st ht hx hs) (Ev.now _)))
theorem listB (s : ByteArray) (a b : List Int) (x st : Int) (ht : talaB s a b = true) (hx : 1 ≤ x ∧ x ≤ 8) (hs : 0 ≤ st ∧ st < wsum 0 a * x) : Ev (fun k => impl_ListCadences.f k s a b x st 6 3) (allL (wsum 0 a * x) st 6 1, 0) := by
  have h := (allL_mem (wsum 0 a * x) st 6 1).1
  unfold impl_ListCadences.f
  exact Ev.bind (cCode s a b x st 6 3 0 ht hx hs (by omega) (by omega) (by omega)) (Ev.pos rfl (Ev.bind (iCad s a b x st ht hx hs) (Ev.neg (by omega) (Ev.now _))))
/-! over all starts there are 24 of them -/
def sm (f : Nat → Nat) : Nat → Nat
  | 0 => 0
  | n + 1 => sm f n + f n
theorem sm_add (f g : Nat → Nat) : ∀ n, sm (fun k => f k + g k) n = sm f n + sm g n
  | 0 => rfl
  | n + 1 => by simp only [sm, sm_add f g n]; omega
theorem sm_zero : ∀ n, sm (fun _ => 0) n = 0
  | 0 => rfl
  | n + 1 => by simp only [sm, sm_zero n]
theorem sm_one (j : Nat) : ∀ n, sm (fun k => if k = j then 1 else 0) n = if j < n then 1 else 0
  | 0 => rfl
  | n + 1 => by
    simp only [sm, sm_one j n]
    split <;> split <;> split <;> omega
theorem sm_congr (f g : Nat → Nat) : ∀ n, (∀ k, k < n → f k = g k) → sm f n = sm g n
  | 0, _ => rfl
  | n + 1, h => by simp only [sm]; rw [sm_congr f g n (fun k hk => h k (by omega)), h n (by omega)]
theorem only (u t : Int) (hu : 1 ≤ u) (ht : 1 ≤ t) (k : Int) (hk : 0 ≤ k ∧ k < u) : (k + t - 1) % u = 0 ↔ k = (u - (t - 1) % u) % u := by
  have h1 := Int.emod_nonneg (t - 1) (show u ≠ 0 by omega)
  have h2 := Int.emod_lt_of_pos (t - 1) (show 0 < u by omega)
  have e : (k + t - 1) % u = (k + (t - 1) % u) % u := by rw [Int.add_emod, Int.emod_emod, ← Int.add_emod, Int.add_sub_assoc]
  rw [e]
  generalize (t - 1) % u = m at *
  by_cases c : m = 0
  · subst c
    rw [Int.add_zero, Int.sub_zero, Int.emod_self, Int.emod_eq_of_lt (by omega) (by omega)]
  · rw [Int.emod_eq_of_lt (a := u - m) (by omega) (by omega)]
    by_cases d : k + m < u
    · rw [Int.emod_eq_of_lt (by omega) (by omega)]; omega
    · rw [show k + m = (k + m - u) + u by omega, Int.add_emod_right, Int.emod_eq_of_lt (by omega) (by omega)]; omega
theorem one_start (u t : Int) (hu : 1 ≤ u) (ht : 1 ≤ t) : sm (fun k => if ((k : Int) + t - 1) % u = 0 then 1 else 0) u.toNat = 1 := by
  have h1 := Int.emod_nonneg (u - (t - 1) % u) (show u ≠ 0 by omega)
  have h2 := Int.emod_lt_of_pos (u - (t - 1) % u) (show 0 < u by omega)
  rw [sm_congr _ (fun k => if k = ((u - (t - 1) % u) % u).toNat then 1 else 0) _ (fun k hk => ?_), sm_one, if_pos (by omega)]
  have h := only u t hu ht k (by omega)
  by_cases c : ((k : Int) + t - 1) % u = 0
  · have := h.1 c
    rw [if_pos c, if_pos (by omega)]
  · rw [if_neg c, if_neg (fun e => c (h.2 (by omega)))]
theorem row_sum (u p : Int) (hu : 1 ≤ u) (hp : 1 ≤ p) (d : Nat) : ∀ g : Int, 0 ≤ g → sm (fun k => (rowL u (k : Int) p d g).length) u.toNat = d := by
  induction d with
  | zero => intro g _; exact sm_zero _
  | succ d ih =>
    intro g hg
    have e : (fun k : Nat => (rowL u (k : Int) p (d + 1) g).length) = fun k : Nat => (if ((k : Int) + (3 * p + 2 * g) - 1) % u = 0 then 1 else 0) + (rowL u (k : Int) p d (g + 1)).length := by
      funext k
      rw [rowL, List.length_append]
      split <;> rfl
    rw [e, sm_add (fun k : Nat => if ((k : Int) + (3 * p + 2 * g) - 1) % u = 0 then 1 else 0) (fun k : Nat => (rowL u (k : Int) p d (g + 1)).length), one_start u _ hu (by omega), ih (g + 1) (by omega)]
    omega
theorem all_sum (u : Int) (hu : 1 ≤ u) (d : Nat) : ∀ p : Int, 1 ≤ p → sm (fun k => (allL u (k : Int) d p).length) u.toNat = 4 * d := by
  induction d with
  | zero => intro p _; exact sm_zero _
  | succ d ih =>
    intro p hp
    have e : (fun k : Nat => (allL u (k : Int) (d + 1) p).length) = fun k : Nat => (rowL u (k : Int) p 4 0).length + (allL u (k : Int) d (p + 1)).length := by
      funext k
      rw [allL, List.length_append]
    rw [e, sm_add (fun k : Nat => (rowL u (k : Int) p 4 0).length) (fun k : Nat => (allL u (k : Int) d (p + 1)).length), row_sum u p hu hp 4 0 (by omega), ih (p + 1) (by omega)]
    omega
theorem sm_le (f : Nat → Nat) (c : Nat) (h : ∀ k, f k ≤ c) : ∀ n, sm f n ≤ c * n
  | 0 => Nat.le_refl _
  | n + 1 => by
    have := sm_le f c h n
    have := h n
    simp only [sm, Nat.mul_add, Nat.mul_one]
    omega
theorem law_l2 (s : ByteArray) (a b : List Int) (x u S kk M : Int) (ht : talaB s a b = true) (hx : 1 ≤ x ∧ x ≤ 8) (hk : 0 ≤ kk ∧ kk < wsum 0 a * x) (L : List (List Int)) (hl : L.length ≤ 1000) (hL : ∀ r ∈ L, ∃ q h, r = [q, h] ∧ 1 ≤ q ∧ q < 1 + (6 : Nat) ∧ 0 ≤ h ∧ h ≤ 3 ∧ (kk + (3 * q + 2 * h) - 1) % (wsum 0 a * x) = 0) (next : Ev (fun k => laws_FnCadences.l1 k x u (wrap64 (S + M)) (wrap64 (kk + 1)) s a b) true) (d : Nat) : ∀ i : Nat, i + d = L.length → Ev (fun k => laws_FnCadences.l2 k x u S kk M L i s a b) true := by
  induction d with
  | zero =>
    intro i h1
    refine Ev.shift ?_
    simp only [laws_FnCadences.l2]
    exact Ev.neg (by omega) next
  | succ d ih =>
    intro i h1
    have hi : i < L.length := by omega
    have w1 : wrap64 ((i : Int) + 1) = ((i + 1 : Nat) : Int) := by rw [wid (by omega)]; rfl
    obtain ⟨q, h, e, q1, q2, h2, h3, he⟩ := hL _ (List.getElem_mem hi)
    have hrow : rd_L3 L (i : Int) = [q, h] := by
      unfold rd_L3
      rw [Int.toNat_natCast, List.getD_eq_getElem?_getD, List.getElem?_eq_getElem hi, Option.getD_some, e]
    have hS := sIs s a b x kk q h ht hx hk (by omega) (by omega)
    rw [decide_eq_true he] at hS
    have e0 : rd [q, h] 0 = q := rfl
    have e1 : rd [q, h] 1 = h := rfl
    refine Ev.shift ?_
    simp only [laws_FnCadences.l2, w1, hrow, e0, e1]
    exact Ev.pos (by omega) (Ev.pos (by omega) (Ev.pos rfl (Ev.pos (by simp) (Ev.pos (by simp) (Ev.bind hS (Ev.pos rfl (ih (i + 1) (by omega))))))))
theorem law_l1 (s : ByteArray) (a b : List Int) (x : Int) (ht : talaB s a b = true) (hx : 1 ≤ x ∧ x ≤ 8) (d : Nat) : ∀ kk : Nat, kk + d = (wsum 0 a * x).toNat → Ev (fun k => laws_FnCadences.l1 k x (wsum 0 a * x) (sm (fun j => (allL (wsum 0 a * x) (j : Int) 6 1).length) kk : Nat) kk s a b) true := by
  obtain ⟨w, u1, u2⟩ := uB ht hx
  induction d with
  | zero =>
    intro kk h1
    refine Ev.shift ?_
    simp only [laws_FnCadences.l1]
    refine Ev.neg (by omega) (Ev.some ?_)
    have : kk = (wsum 0 a * x).toNat := by omega
    rw [this, all_sum _ u1 6 1 (by omega)]
    rfl
  | succ d ih =>
    intro kk h1
    have hk : 0 ≤ (kk : Int) ∧ (kk : Int) < wsum 0 a * x := by omega
    have hb := sm_le (fun j => (allL (wsum 0 a * x) (j : Int) 6 1).length) 24 (fun j => (allL_mem _ _ 6 1).1) kk
    have hm := allL_mem (wsum 0 a * x) (kk : Int) 6 1
    have X := ih (kk + 1) (by omega)
    have hC := countB s a b x kk ht hx hk
    have hL := listB s a b x kk ht hx hk
    rw [sm] at X
    generalize sm (fun j => (allL (wsum 0 a * x) (j : Int) 6 1).length) kk = S at *
    generalize allL (wsum 0 a * x) (kk : Int) 6 1 = L at *
    have w1 : wrap64 ((kk : Int) + 1) = ((kk + 1 : Nat) : Int) := by rw [wid (by omega)]; rfl
    have w2 : wrap64 ((S : Int) + (L.length : Int)) = ((S + L.length : Nat) : Int) := by rw [wid (by omega)]; omega
    rw [← w1, ← w2] at X
    have Y := law_l2 s a b x (wsum 0 a * x) S kk (L.length : Int) ht hx hk L (by omega) hm.2 X L.length 0 (by omega)
    have J : Ev (fun k => laws_FnCadences.j4 k x (wsum 0 a * x) S kk (L.length : Int) L false s a b) true := by
      refine Ev.shift ?_
      simp only [laws_FnCadences.j4]
      exact Ev.neg (by simp) Y
    have e : (((L.length : Int)) != (L.length : Int)) = false := bne_self_eq_false _
    refine Ev.shift ?_
    simp only [laws_FnCadences.l1]
    refine Ev.pos (by omega) (Ev.bind hC (Ev.bind hL (Ev.pos rfl (Ev.pos rfl ?_))))
    simp only [e]
    exact J
theorem law_l0 (s : ByteArray) (a b : List Int) (x p g st : Int) (ht : talaB s a b = true) (hx : 1 ≤ x ∧ x ≤ 8) (hs : 0 ≤ st ∧ st < wsum 0 a * x) (hp : 1 ≤ p ∧ p ≤ 30) (hg : 0 ≤ g ∧ g ≤ 11) (hst : st = (wsum 0 a * x - (3 * p + 2 * g - 1) % (wsum 0 a * x)) % (wsum 0 a * x)) (fin : Ev (fun k => laws_FnCadences.l0 k x (wsum 0 a * x) p g st (wsum 0 a * x) s a b) true) (d : Nat) : ∀ kk : Int, 0 ≤ kk → kk + d = wsum 0 a * x → Ev (fun k => laws_FnCadences.l0 k x (wsum 0 a * x) p g st kk s a b) true := by
  obtain ⟨w, u1, u2⟩ := uB ht hx
  induction d with
  | zero =>
    intro kk h0 h1
    rw [show kk = wsum 0 a * x by omega]
    exact fin
  | succ d ih =>
    intro kk h0 h1
    have hk : 0 ≤ kk ∧ kk < wsum 0 a * x := by omega
    have w1 : wrap64 (kk + 1) = kk + 1 := wid (by omega)
    have X := ih (kk + 1) (by omega) (by omega)
    refine Ev.shift ?_
    simp only [laws_FnCadences.l0, w1]
    by_cases c : kk = st
    · exact Ev.pos hk.2 (Ev.pos c X)
    · have hI := cIs s a b x kk p g ht hx hk (by omega) (by omega)
      have h := only (wsum 0 a * x) (3 * p + 2 * g) u1 (by omega) kk hk
      rw [decide_eq_false (fun e => c ((h.1 e).trans hst.symm))] at hI
      exact Ev.pos hk.2 (Ev.neg c (Ev.bind hI (Ev.neg (by simp) X)))
theorem FnCadences : laws_FnCadences.Pure := by
  intro x0 x1 _ _ hw0 _ _ hw1
  have hb : ∀ l : List Int, (∀ x ∈ l, (Lit.int .u8 x).wf = true) → bytesB l := fun l hl j hj => by
    have h := hl _ (List.getElem_mem hj)
    rw [List.getD_eq_getElem?_getD, List.getElem?_eq_getElem hj, Option.getD_some]
    simp [Lit.wf, IntKind.min, IntKind.max, IntKind.signed, IntKind.bits] at h
    omega
  refine Ev.rounds (g := fun k => laws_FnCadences.f k x0 x1) ?_
  obtain ⟨s, a, b, ht, ev1⟩ := rTala x0 (hb x0 hw0)
  obtain ⟨q, hq, q0, q1⟩ := atB x1 (hb x1 hw1) 0 4 (by omega) (by omega)
  obtain ⟨p, hp, p0, p1⟩ := atB x1 (hb x1 hw1) 1 30 (by omega) (by omega)
  obtain ⟨g, hg, g0, g1⟩ := atB x1 (hb x1 hw1) 2 12 (by omega) (by omega)
  obtain ⟨y, hy⟩ : ∃ y, laws_r8Long.f x0 x1 = some y := by
    unfold laws_r8Long.f
    by_cases c : (x0.length : Int) > 1048576
    · exact ⟨_, if_pos c⟩
    · exact ⟨_, if_neg c⟩
  obtain ⟨x, ex⟩ : ∃ x, 1 + q = x := ⟨_, rfl⟩
  obtain ⟨P, eP⟩ : ∃ P, 1 + p = P := ⟨_, rfl⟩
  have wx : wrap64 (1 + q) = x := by rw [wid (by omega), ex]
  have wP : wrap64 (1 + p) = P := by rw [wid (by omega), eP]
  have hx : 1 ≤ x ∧ x ≤ 8 := by omega
  have hP : 1 ≤ P ∧ P ≤ 30 := by omega
  have hG : 0 ≤ g ∧ g ≤ 11 := by omega
  clear ex eP
  have hu := uB ht hx
  have evB := beatB s a b ht
  have evS := cStart s a b x P g ht hx (by omega) (by omega)
  obtain ⟨st, est⟩ : ∃ st, st = (wsum 0 a * x - (3 * P + 2 * g - 1) % (wsum 0 a * x)) % (wsum 0 a * x) := ⟨_, rfl⟩
  rw [← est] at evS
  have hs : 0 ≤ st ∧ st < wsum 0 a * x := by
    rw [est]
    exact ⟨Int.emod_nonneg _ (by omega), Int.emod_lt_of_pos _ (by omega)⟩
  have he := (only (wsum 0 a * x) (3 * P + 2 * g) hu.2.1 (by omega) st hs).2 est
  have evI := cIs s a b x st P g ht hx hs (by omega) (by omega)
  have evE := cSam s a b x st (3 * P + 2 * g) ht hx hs (by omega)
  rw [decide_eq_true he] at evI evE
  obtain ⟨r, r1, r2, r3, evG⟩ := gapB s a b x st P g ht hx hs (by omega) (by omega) he
  obtain ⟨z, z1, z2, z3, evH⟩ := phraseB s a b x st P g ht hx hs (by omega) (by omega) he
  have evP := placesB s a b x st P g ht hx hs (by omega) (by omega) he
  have evQ := samsB s a b x st P g ht hx hs (by omega) (by omega) he
  have ev3 := sIs s a b x st P r ht hx hs (by omega) (by omega)
  have ev4 := sIs s a b x st z g ht hx hs (by omega) (by omega)
  rw [decide_eq_true r3] at ev3
  rw [decide_eq_true z3] at ev4
  have hL1 := law_l1 s a b x ht hx (wsum 0 a * x).toNat 0 (by omega)
  have hfin : Ev (fun k => laws_FnCadences.l0 k x (wsum 0 a * x) P g st (wsum 0 a * x) s a b) true := by
    have J : Ev (fun k => laws_FnCadences.j2 k x (wsum 0 a * x) false s a b) true := by
      refine Ev.shift ?_
      simp only [laws_FnCadences.j2]
      exact Ev.neg (by simp) hL1
    refine Ev.shift ?_
    simp only [laws_FnCadences.l0]
    refine Ev.neg (by omega) (Ev.bind evG (Ev.bind evH (Ev.bind evP (Ev.bind evQ ?_))))
    obtain ⟨w, u1, u2⟩ := hu
    clear evP evQ evG evH evI evE hL1 evS evB
    generalize wsum 0 a * x = u at *
    have e0 : rd [st, st + P + g, st + 2 * (P + g), st + (3 * P + 2 * g) - 1] 0 = st := rfl
    have e1 : rd [st, st + P + g, st + 2 * (P + g), st + (3 * P + 2 * g) - 1] 1 = st + P + g := rfl
    have e2 : rd [st, st + P + g, st + 2 * (P + g), st + (3 * P + 2 * g) - 1] 2 = st + 2 * (P + g) := rfl
    have e3 : rd [st, st + P + g, st + 2 * (P + g), st + (3 * P + 2 * g) - 1] 3 = st + (3 * P + 2 * g) - 1 := rfl
    have hd : (st + (3 * P + 2 * g) - 1) / u * u = st + (3 * P + 2 * g) - 1 := Int.ediv_mul_cancel (Int.dvd_of_emod_eq_zero he)
    have v0 : wrap64 ((st + (3 * P + 2 * g) - 1) / u * u) = st + (3 * P + 2 * g) - 1 := by rw [hd]; exact wid (by omega)
    have v1 : wrap64 (st + P + g - st) = P + g := by rw [wid (by omega)]; omega
    have v2 : wrap64 (P + g) = P + g := wid (by omega)
    have v3 : wrap64 (st + 2 * (P + g) - (st + P + g)) = P + g := by rw [wid (by omega)]; omega
    have v4 : wrap64 (st + (3 * P + 2 * g) - 1 - (st + 2 * (P + g))) = P - 1 := by rw [wid (by omega)]; omega
    have v5 : wrap64 (P - 1) = P - 1 := wid (by omega)
    have v6 : (P - 1 != P - 1) = false := bne_self_eq_false _
    simp only [e0, e1, e2, e3, v0, v1, v2, v3, v4, v5, v6]
    exact Ev.pos trivial (Ev.neg (by omega) (Ev.bind ev3 (Ev.pos rfl (Ev.pos trivial (Ev.neg (by omega) (Ev.bind ev4 (Ev.pos rfl (Ev.pos trivial (Ev.pos rfl (Ev.pos trivial (Ev.pos (by simp) (Ev.pos trivial (Ev.pos (by simp) (Ev.pos trivial (Ev.pos (by simp) (Ev.pos trivial (Ev.pos (by simp) (Ev.pos trivial J))))))))))))))))))
  have hL0 := law_l0 s a b x P g st ht hx hs hP hG est hfin (wsum 0 a * x).toNat 0 (by omega) (by omega)
  have J0 : Ev (fun k => laws_FnCadences.j0 k x (wsum 0 a * x) P g st false s a b) true := by
    refine Ev.shift ?_
    simp only [laws_FnCadences.j0]
    exact Ev.neg (by simp) hL0
  unfold laws_FnCadences.f
  simp only [hy, Option.bind_some]
  cases y with
  | true => exact Ev.pos rfl (Ev.now _)
  | false =>
    refine Ev.neg (by simp) (Ev.bind ev1 (Ev.bind evB ?_))
    simp only [hq, hp, hg, Option.bind_some, wx, wP, hu.1, cTot P g (by omega) (by omega)]
    refine Ev.bind evS (Ev.pos rfl (Ev.neg (Int.not_lt.2 hs.1) (Ev.neg (Int.not_le.2 hs.2) (Ev.bind evI (Ev.pos rfl (Ev.bind evE ?_))))))
    exact J0

end Go.Proofs.Ytbpliblhpiompaa.Pure
