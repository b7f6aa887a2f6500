/- The pure statement of the law FnBars: what the Go functions compute, told by plain Lean functions, is what the law asks, for all arguments. No condition beyond the printed ones. -/
import Derived.Test.YtbpliblhpiompaaPFnBarsx12
import Derived.Test.YtbpliblhpiompaaXW
namespace Go.Proofs.Ytbpliblhpiompaa.Pure
open Go.RowKit Go.Proofs.Ytbpliblhpiompaa.PFnBars Go.Proofs.YtbpliblhpiompaaW.PrintWords Go.Proofs.YtbpliblhpiompaaW.PrintLast Go.Proofs.YtbpliblhpiompaaW.PrintMore Go.Proofs.YtbpliblhpiompaaXW
set_option linter.unusedVariables false
set_option linter.unusedSimpArgs false
def risQ (l : List Int) (lo hi : Int) (j : Nat) : Bool := decide (lo ≤ l.getD j 0 ∧ l.getD j 0 ≤ hi) && (decide (j = 0) || decide (l.getD (j - 1) 0 < l.getD j 0))
theorem in_eq (a b c : Int) : spec_l00In.f a b c = some (decide (b ≤ a ∧ a ≤ c)) := by
  unfold spec_l00In.f; split <;> simp_all; omega
theorem within_eq (a b c : Int) : impl_within.f a b c = some (decide (b ≤ a ∧ a ≤ c)) := by
  unfold impl_within.f; split <;> simp_all; omega
theorem allIn_eq (l : List Int) (a b : Int) : impl_allWithin.f l a b = some (l.all fun x => decide (a ≤ x ∧ x ≤ b)) := by
  unfold impl_allWithin.f
  rw [List.not_any_eq_all_not]
  congr 2
  funext x
  simp [allP]
theorem sLen1 (n : Int) : spec_l09Length.f n = some (decide (1 ≤ n ∧ n ≤ 64)) := by
  unfold spec_l09Length.f; rw [in_eq]; rfl
theorem iLen1 (n : Int) : impl_lengthOk.f n = some (decide (1 ≤ n ∧ n ≤ 64)) := by
  unfold impl_lengthOk.f; rw [within_eq]; rfl
def chQ (s : ByteArray) (j : Nat) : Bool := decide (97 ≤ bt s j ∧ bt s j ≤ 122) || decide (48 ≤ bt s j ∧ bt s j ≤ 57)
def nameB (s : ByteArray) : Bool := decide (1 ≤ s.size ∧ s.size ≤ 10) && (decide (97 ≤ bt s 0 ∧ bt s 0 ≤ 122) && allF (chQ s) s.size 0)
theorem small_eq (a : Int) : spec_l01Small.f a = some (decide (97 ≤ a ∧ a ≤ 122)) := by
  unfold spec_l01Small.f; split <;> simp_all; omega
theorem digit_eq (a : Int) : spec_l01Digit.f a = some (decide (48 ≤ a ∧ a ≤ 57)) := by
  unfold spec_l01Digit.f; split <;> simp_all; omega
theorem sName_l0 (s : ByteArray) (hs : s.size ≤ 10) (d : Nat) : ∀ (i : Nat), i + d = s.size → Ev (fun k => spec_l01Name.l0 k s i) (allF (chQ s) s.size i) := by
  induction d with
  | zero =>
    intro i h1
    refine Ev.shift ?_
    simp only [spec_l01Name.l0]
    exact Ev.neg (by omega) (Ev.some (by rw [allF_end _ (by omega)]))
  | succ d ih =>
    intro i h1
    have w1 : wrap64 ((i : Int) + 1) = ((i + 1 : Nat) : Int) := by rw [wid (by omega)]; rfl
    refine Ev.shift ?_
    simp only [spec_l01Name.l0, small_eq, digit_eq, Option.bind_some, w1]
    refine Ev.pos (by omega) (Ev.pos (by omega) ?_)
    by_cases a : 97 ≤ bt s i ∧ bt s i ≤ 122
    · rw [allF_yes _ (show chQ s i = true by unfold chQ; rw [decide_eq_true a]; rfl)]
      exact Ev.pos (decide_eq_true a) (ih (i + 1) (by omega))
    · refine Ev.neg (by rw [decide_eq_true_iff]; exact a) ?_
      by_cases b : 48 ≤ bt s i ∧ bt s i ≤ 57
      · rw [allF_yes _ (show chQ s i = true by unfold chQ; rw [decide_eq_true b, Bool.or_true])]
        exact Ev.pos (decide_eq_true b) (ih (i + 1) (by omega))
      · rw [allF_no _ (by omega) (show chQ s i = false by unfold chQ; rw [decide_eq_false a, decide_eq_false b]; rfl)]
        exact Ev.neg (by rw [decide_eq_true_iff]; exact b) (Ev.now _)
theorem sName (s : ByteArray) : Ev (fun k => spec_l01Name.f k s) (nameB s) := by
  unfold spec_l01Name.f nameB
  simp only [small_eq, Option.bind_some]
  have e : s.toList.length = s.size := by rw [ByteArray.toList_eq]; simp
  have f : Ev (fun k => spec_l01Name.j0 k s true) false := by
    refine Ev.shift ?_
    simp only [spec_l01Name.j0]
    exact Ev.pos trivial (Ev.now _)
  by_cases h0 : s.toList = []
  · refine Ev.pos h0 ?_
    rw [h0] at e
    rw [decide_eq_false (by simp at e; omega)]
    exact f
  · refine Ev.neg h0 ?_
    have hp : 0 < s.toList.length := List.length_pos_iff.2 h0
    by_cases h1 : (s.size : Int) > 10
    · refine Ev.pos h1 ?_
      rw [decide_eq_false (show ¬ (1 ≤ s.size ∧ s.size ≤ 10) by omega)]
      exact f
    · refine Ev.neg h1 (Ev.pos (by omega) ?_)
      rw [decide_eq_true (show 1 ≤ s.size ∧ s.size ≤ 10 by omega), Bool.true_and]
      cases hb : decide (97 ≤ bt s 0 ∧ bt s 0 ≤ 122) with
      | false => exact f
      | true =>
        refine Ev.shift ?_
        simp only [spec_l01Name.j0]
        exact Ev.neg (by decide) (sName_l0 s (by omega) s.size 0 (by omega))
theorem iName_l0 (s : ByteArray) (hs : s.size ≤ 10) (d : Nat) : ∀ (i : Nat), i + d = s.size → Ev (fun k => impl_onlyNameBytes.l0 k s (s.size : Int) i) (allF (chQ s) s.size i) := by
  induction d with
  | zero =>
    intro i h1
    refine Ev.shift ?_
    simp only [impl_onlyNameBytes.l0]
    exact Ev.neg (by omega) (Ev.some (by rw [allF_end _ (by omega)]))
  | succ d ih =>
    intro i h1
    have w1 : wrap64 ((i : Int) + 1) = ((i + 1 : Nat) : Int) := by rw [wid (by omega)]; rfl
    refine Ev.shift ?_
    simp only [impl_onlyNameBytes.l0, w1]
    refine Ev.pos (by omega) (Ev.pos (by omega) (Ev.pos (by omega) ?_))
    by_cases a : 97 ≤ bt s i ∧ bt s i ≤ 122
    · rw [allF_yes _ (show chQ s i = true by unfold chQ; rw [decide_eq_true a]; rfl)]
      exact Ev.neg (by omega) (Ev.neg (by omega) (ih (i + 1) (by omega)))
    · by_cases b : 48 ≤ bt s i ∧ bt s i ≤ 57
      · rw [allF_yes _ (show chQ s i = true by unfold chQ; rw [decide_eq_true b, Bool.or_true])]
        exact Ev.pos (by omega) (Ev.neg (by omega) (Ev.neg (by omega) (ih (i + 1) (by omega))))
      · rw [allF_no _ (by omega) (show chQ s i = false by unfold chQ; rw [decide_eq_false a, decide_eq_false b]; rfl)]
        by_cases c : bt s i < 97
        · refine Ev.pos c ?_
          by_cases c2 : bt s i < 48
          · exact Ev.pos c2 (Ev.now _)
          · exact Ev.neg c2 (Ev.pos (by omega) (Ev.now _))
        · exact Ev.neg c (Ev.pos (by omega) (Ev.neg (by omega) (Ev.pos (by omega) (Ev.now _))))
theorem iName (s : ByteArray) : Ev (fun k => impl_IsName.f k s) (nameB s) := by
  unfold impl_IsName.f nameB impl_onlyNameBytes.f
  by_cases h0 : (s.size : Int) < 1
  · rw [decide_eq_false (show ¬ (1 ≤ s.size ∧ s.size ≤ 10) by omega)]
    exact Ev.pos h0 (Ev.now _)
  · refine Ev.neg h0 ?_
    by_cases h1 : (s.size : Int) > 10
    · rw [decide_eq_false (show ¬ (1 ≤ s.size ∧ s.size ≤ 10) by omega)]
      exact Ev.pos h1 (Ev.now _)
    · rw [decide_eq_true (show 1 ≤ s.size ∧ s.size ≤ 10 by omega), Bool.true_and]
      refine Ev.neg h1 (Ev.pos (by omega) ?_)
      by_cases a : bt s 0 < 97
      · rw [decide_eq_false (show ¬ (97 ≤ bt s 0 ∧ bt s 0 ≤ 122) by omega)]
        exact Ev.pos a (Ev.now _)
      · refine Ev.neg a ?_
        by_cases b : bt s 0 > 122
        · rw [decide_eq_false (show ¬ (97 ≤ bt s 0 ∧ bt s 0 ≤ 122) by omega)]
          exact Ev.pos b (Ev.now _)
        · rw [decide_eq_true (show 97 ≤ bt s 0 ∧ bt s 0 ≤ 122 by omega), Bool.true_and]
          exact Ev.neg b (Ev.bind (iName_l0 s (by omega) s.size 0 (by omega)) (Ev.now _))
def wsum : Int → List Int → Int
  | s, [] => s
  | s, x :: l => wsum (wrap64 (s + x)) l
theorem consW (g : List Int) (i : Nat) (h : i < g.length) : g.drop i = g.getD i 0 :: g.drop (i + 1) := by
  rw [List.drop_eq_getElem_cons h, List.getD_eq_getElem?_getD, List.getElem?_eq_getElem h]; rfl
theorem sWsum_l0 (l : List Int) (hl : l.length ≤ 35184372088832) (d : Nat) : ∀ (i : Nat) (s : Int), i + d = l.length → Ev (fun k => spec_l17Sum.l0 k l s i) (wsum s (l.drop i)) := by
  induction d with
  | zero =>
    intro i s h1
    refine Ev.shift ?_
    simp only [spec_l17Sum.l0]
    rw [List.drop_of_length_le (by omega), wsum]
    exact Ev.neg (by omega) (Ev.now _)
  | succ d ih =>
    intro i s h1
    have p1 : (i : Int) < (l.length : Int) := by omega
    have w1 : wrap64 ((i : Int) + 1) = ((i + 1 : Nat) : Int) := by rw [wid (by omega)]; rfl
    refine Ev.shift ?_
    simp only [spec_l17Sum.l0, rd_nat, w1]
    rw [consW l i (by omega), wsum]
    exact Ev.pos p1 (Ev.pos (Int.natCast_nonneg _) (ih (i + 1) _ (by omega)))
theorem sWsum (l : List Int) (hl : l.length ≤ 35184372088832) : Ev (fun k => spec_l17Sum.f k l) (wsum 0 l) :=
  sWsum_l0 l hl l.length 0 0 (by omega)
theorem iWsum_l0 (l : List Int) (hl : l.length ≤ 35184372088832) (d : Nat) : ∀ (i : Nat) (s : Int), i + d = l.length → Ev (fun k => impl_sumOf.l0 k s l (l.length : Int) i) (wsum s (l.drop i)) := by
  induction d with
  | zero =>
    intro i s h1
    refine Ev.shift ?_
    simp only [impl_sumOf.l0]
    rw [List.drop_of_length_le (by omega), wsum]
    exact Ev.neg (by omega) (Ev.now _)
  | succ d ih =>
    intro i s h1
    have p1 : (i : Int) < (l.length : Int) := by omega
    have w1 : wrap64 ((i : Int) + 1) = ((i + 1 : Nat) : Int) := by rw [wid (by omega)]; rfl
    refine Ev.shift ?_
    simp only [impl_sumOf.l0, rd_nat, w1]
    rw [consW l i (by omega), wsum]
    exact Ev.pos p1 (Ev.pos (Int.natCast_nonneg _) (Ev.pos p1 (ih (i + 1) _ (by omega))))
theorem iWsum (l : List Int) (hl : l.length ≤ 35184372088832) : Ev (fun k => impl_sumOf.f k l) (wsum 0 l) :=
  iWsum_l0 l hl l.length 0 0 (by omega)
theorem wsum_bd (l : List Int) : ∀ s : Int, 0 ≤ s → (∀ x ∈ l, 1 ≤ x ∧ x ≤ 16) → s + 16 * l.length ≤ 1000000 → s + l.length ≤ wsum s l ∧ wsum s l ≤ s + 16 * l.length := by
  induction l with
  | nil => intro s h1 _ h3; rw [wsum]; simp
  | cons x l ih =>
    intro s h1 h2 h3
    have hx := h2 x (by simp)
    rw [List.length_cons] at h3
    have := ih (s + x) (by omega) (fun y hy => h2 y (by simp [hy])) (by omega)
    rw [wsum, wid (by omega), List.length_cons]
    omega
def taQ (a b : List Int) (j : Nat) : Bool := decide (1 ≤ a.getD j 0 ∧ a.getD j 0 ≤ 16) && (if j = 0 then decide (b.getD j 0 = 1) else decide (2 ≤ b.getD j 0 ∧ b.getD j 0 ≤ 3))
def talaB (s : ByteArray) (a b : List Int) : Bool := nameB s && (decide (1 ≤ (a.length : Int) ∧ (a.length : Int) ≤ 8) && (decide ((b.length : Int) = (a.length : Int)) && (allF (taQ a b) a.length 0 && decide (wsum 0 a ≤ 32))))
theorem sTala_l0 (s : ByteArray) (a b : List Int) (h8 : a.length ≤ 8) (hb : b.length = a.length) (d : Nat) : ∀ (i : Nat), i + d = a.length → Ev (fun k => spec_l17Ok.l0 k (a.length : Int) i s a b) (allF (taQ a b) a.length i && decide (wsum 0 a ≤ 32), s) := by
  induction d with
  | zero =>
    intro i h1
    refine Ev.shift ?_
    simp only [spec_l17Ok.l0]
    refine Ev.neg (by omega) (Ev.bind (sWsum a (by omega)) ?_)
    rw [allF_end _ (by omega), Bool.true_and]
    exact Ev.now _
  | succ d ih =>
    intro i h1
    have p1 : (i : Int) < (a.length : Int) := by omega
    have p2 : (i : Int) < (b.length : Int) := by omega
    have w1 : wrap64 ((i : Int) + 1) = ((i + 1 : Nat) : Int) := by rw [wid (by omega)]; rfl
    have hr := ih (i + 1) (by omega)
    refine Ev.shift ?_
    simp only [spec_l17Ok.l0, rd_nat, in_eq, Option.bind_some, w1]
    refine Ev.pos p1 (Ev.pos (Int.natCast_nonneg _) (Ev.pos p1 ?_))
    by_cases ha : 1 ≤ a.getD i 0 ∧ a.getD i 0 ≤ 16
    · refine Ev.pos (decide_eq_true ha) ?_
      by_cases h0 : i = 0
      · subst h0
        refine Ev.pos rfl (Ev.pos p2 ?_)
        by_cases h : b.getD 0 0 = 1
        · rw [allF_yes _ (show taQ a b 0 = true by unfold taQ; rw [decide_eq_true ha, if_pos rfl, decide_eq_true h]; rfl)]
          exact Ev.pos h (Ev.neg (by omega) hr)
        · rw [allF_no _ (by omega) (show taQ a b 0 = false by unfold taQ; rw [decide_eq_true ha, if_pos rfl, decide_eq_false h]; rfl)]
          exact Ev.neg h (Ev.now _)
      · refine Ev.neg (by omega) (Ev.pos (by omega) (Ev.pos p2 ?_))
        by_cases h : 2 ≤ b.getD i 0 ∧ b.getD i 0 ≤ 3
        · rw [allF_yes _ (show taQ a b i = true by unfold taQ; rw [decide_eq_true ha, if_neg h0, decide_eq_true h]; rfl)]
          exact Ev.pos (decide_eq_true h) hr
        · rw [allF_no _ (by omega) (show taQ a b i = false by unfold taQ; rw [decide_eq_true ha, if_neg h0, decide_eq_false h]; rfl)]
          exact Ev.neg (by rw [decide_eq_true_iff]; exact h) (Ev.now _)
    · rw [allF_no _ (by omega) (show taQ a b i = false by unfold taQ; rw [decide_eq_false ha]; rfl)]
      exact Ev.neg (by rw [decide_eq_true_iff]; exact ha) (Ev.now _)
theorem sTala (s : ByteArray) (a b : List Int) (hl : a.length ≤ 35184372088832) : Ev (fun k => spec_l17Ok.f k s a b) (talaB s a b, s) := by
  unfold spec_l17Ok.f talaB
  simp only [in_eq, Option.bind_some]
  have f : Ev (fun k => spec_l17Ok.j0 k (a.length : Int) true s a b) (false, s) := by
    refine Ev.shift ?_
    simp only [spec_l17Ok.j0]
    exact Ev.pos trivial (Ev.now _)
  refine Ev.bind (sName s) ?_
  cases nameB s with
  | false => exact Ev.neg (by decide) f
  | true =>
    refine Ev.pos rfl ?_
    rw [Bool.true_and]
    by_cases h8 : 1 ≤ (a.length : Int) ∧ (a.length : Int) ≤ 8
    · rw [decide_eq_true h8, Bool.true_and]
      refine Ev.pos rfl ?_
      by_cases hb : (b.length : Int) = (a.length : Int)
      · rw [decide_eq_true hb, Bool.true_and, show ((b.length : Int) != (a.length : Int)) = false from by rw [hb]; simp]
        refine Ev.shift ?_
        simp only [spec_l17Ok.j0]
        exact Ev.neg (by decide) (sTala_l0 s a b (by omega) (by omega) a.length 0 (by omega))
      · rw [decide_eq_false hb, Bool.false_and, show ((b.length : Int) != (a.length : Int)) = true from bne_iff_ne.2 hb]
        exact f
    · rw [decide_eq_false h8, Bool.false_and]
      exact Ev.neg (by decide) f
theorem talaB_sum {s : ByteArray} {a b : List Int} (h : talaB s a b = true) : 1 ≤ wsum 0 a ∧ wsum 0 a ≤ 32 := by
  unfold talaB at h
  rw [Bool.and_eq_true, Bool.and_eq_true, Bool.and_eq_true, Bool.and_eq_true, decide_eq_true_iff, decide_eq_true_iff, allF_iff] at h
  obtain ⟨_, h1, _, h2, h3⟩ := h
  refine ⟨?_, of_decide_eq_true h3⟩
  have := wsum_bd a 0 (Int.le_refl _) (fun x hx => by
    obtain ⟨j, hj, rfl⟩ := List.getElem_of_mem hx
    have := h2 j hj (Nat.zero_le _)
    unfold taQ at this
    rw [Bool.and_eq_true, decide_eq_true_iff, List.getD_eq_getElem?_getD, List.getElem?_eq_getElem hj] at this
    exact this.1) (by omega)
  omega
theorem iTala (s : ByteArray) (a b : List Int) (hl : a.length ≤ 35184372088832) : Ev (fun k => impl_ValidTala.f k s a b) (talaB s a b) := by
  unfold impl_ValidTala.f talaB impl_Tala_beats.f
  simp only [allIn_eq, Option.bind_some]
  refine Ev.bind (iName s) ?_
  cases nameB s with
  | false => exact Ev.neg (by decide) (Ev.now _)
  | true =>
    refine Ev.pos rfl ?_
    rw [Bool.true_and]
    by_cases g1 : (a.length : Int) < 1
    · rw [decide_eq_false (show ¬ (1 ≤ (a.length : Int) ∧ (a.length : Int) ≤ 8) by omega)]
      exact Ev.pos g1 (Ev.now _)
    refine Ev.neg g1 ?_
    by_cases g2 : (a.length : Int) > 8
    · rw [decide_eq_false (show ¬ (1 ≤ (a.length : Int) ∧ (a.length : Int) ≤ 8) by omega)]
      exact Ev.pos g2 (Ev.now _)
    refine Ev.neg g2 ?_
    rw [decide_eq_true (show 1 ≤ (a.length : Int) ∧ (a.length : Int) ≤ 8 by omega), Bool.true_and]
    have ga : (a.all fun x => decide (1 ≤ x ∧ x ≤ 16)) = true ↔ ∀ j, j < a.length → 1 ≤ a.getD j 0 ∧ a.getD j 0 ≤ 16 := by
      rw [all_iff_get]
      exact ⟨fun h j hj => of_decide_eq_true (h j hj), fun h j hj => decide_eq_true (h j hj)⟩
    have fal : (∃ j, j < a.length ∧ taQ a b j = false) → allF (taQ a b) a.length 0 = false := by
      rintro ⟨j, hj, h⟩
      cases hq : allF (taQ a b) a.length 0 with
      | false => rfl
      | true => rw [allF_iff] at hq; rw [hq j hj (Nat.zero_le _)] at h; cases h
    cases ha : (a.all fun x => decide (1 ≤ x ∧ x ≤ 16)) with
    | false =>
      have : allF (taQ a b) a.length 0 = false := by
        cases hq : allF (taQ a b) a.length 0 with
        | false => rfl
        | true =>
          rw [allF_iff] at hq
          rw [ga.2 (fun j hj => by
            have := hq j hj (Nat.zero_le _)
            unfold taQ at this
            rw [Bool.and_eq_true, decide_eq_true_iff] at this
            exact this.1)] at ha
          cases ha
      rw [this, Bool.false_and, Bool.and_false]
      exact Ev.neg (by decide) (Ev.now _)
    | true =>
      have ha' := ga.1 ha
      refine Ev.pos rfl ?_
      refine Ev.bind (Ev.bind (iWsum a hl) (Ev.now _)) ?_
      by_cases g3 : wsum 0 a > 32
      · rw [decide_eq_false (show ¬ wsum 0 a ≤ 32 by omega), Bool.and_false, Bool.and_false]
        exact Ev.pos g3 (Ev.now _)
      refine Ev.neg g3 ?_
      rw [decide_eq_true (show wsum 0 a ≤ 32 by omega), Bool.and_true]
      by_cases hb : (b.length : Int) = (a.length : Int)
      · rw [decide_eq_true hb, Bool.true_and]
        refine Ev.pos hb (Ev.pos (by omega) ?_)
        have e0 : rd b 0 = b.getD 0 0 := rd_nat b 0
        rw [e0]
        by_cases h0 : b.getD 0 0 = 1
        · refine Ev.pos h0 (Ev.pos (by omega) (Ev.some ?_))
          rw [Option.some_inj, Bool.eq_iff_iff, all_iff_get, allF_iff, List.length_drop]
          have gd : ∀ j, (b.drop 1).getD j 0 = b.getD (1 + j) 0 := fun j => by rw [List.getD_eq_getElem?_getD, List.getElem?_drop, List.getD_eq_getElem?_getD]
          constructor
          · intro h j hj _
            unfold taQ
            rw [decide_eq_true (ha' j hj), Bool.true_and]
            by_cases hj0 : j = 0
            · subst hj0; rw [if_pos rfl]; exact decide_eq_true h0
            · rw [if_neg hj0]
              have := h (j - 1) (by omega)
              rw [gd, show 1 + (j - 1) = j by omega] at this
              exact this
          · intro h j hj
            have := h (1 + j) (by omega) (Nat.zero_le _)
            unfold taQ at this
            rw [Bool.and_eq_true, if_neg (by omega)] at this
            rw [gd]
            exact this.2
        · rw [fal ⟨0, by omega, by unfold taQ; rw [if_pos rfl, decide_eq_false h0, Bool.and_false]⟩]
          exact Ev.neg h0 (Ev.now _)
      · rw [decide_eq_false hb, Bool.false_and]
        exact Ev.neg hb (Ev.now _)
def meQ (l : List S51) (j : Nat) : Bool := decide (-12 ≤ (l.getD j z51).f0 ∧ (l.getD j z51).f0 ≤ 23) && decide (1 ≤ (l.getD j z51).f1 ∧ (l.getD j z51).f1 ≤ 64)
def melB (l : List S51) : Bool := allF (meQ l) l.length 0 && decide ((l.length : Int) ≤ 48)
theorem rdNo (l : List S51) (i : Nat) : rd_T51 l (i : Int) = l.getD i z51 := by
  unfold rd_T51
  rw [Int.toNat_natCast]
theorem sMel_l0 (l : List S51) (hl : l.length ≤ 17592186044416) (d : Nat) : ∀ (i : Nat), i + d = l.length → Ev (fun k => spec_l09Ok.l0 k l i) (allF (meQ l) l.length i && decide ((l.length : Int) ≤ 48)) := by
  induction d with
  | zero =>
    intro i h1
    refine Ev.shift ?_
    simp only [spec_l09Ok.l0]
    exact Ev.neg (by omega) (Ev.some (by rw [allF_end _ (by omega), Bool.true_and]))
  | succ d ih =>
    intro i h1
    have w1 : wrap64 ((i : Int) + 1) = ((i + 1 : Nat) : Int) := by rw [wid (by omega)]; rfl
    have hr := ih (i + 1) (by omega)
    refine Ev.shift ?_
    simp only [spec_l09Ok.l0, spec_l03Pitch.f, spec_l09Length.f, in_eq, Option.bind_some, rdNo, w1]
    refine Ev.pos (by omega) (Ev.pos (by omega) ?_)
    by_cases a : -12 ≤ (l.getD i z51).f0 ∧ (l.getD i z51).f0 ≤ 23
    · refine Ev.pos (decide_eq_true a) ?_
      by_cases b : 1 ≤ (l.getD i z51).f1 ∧ (l.getD i z51).f1 ≤ 64
      · rw [allF_yes _ (show meQ l i = true by unfold meQ; rw [decide_eq_true a, decide_eq_true b]; rfl)]
        exact Ev.pos (decide_eq_true b) hr
      · rw [allF_no _ (by omega) (show meQ l i = false by unfold meQ; rw [decide_eq_false b, Bool.and_false])]
        exact Ev.neg (by rw [decide_eq_true_iff]; exact b) (Ev.now _)
    · rw [allF_no _ (by omega) (show meQ l i = false by unfold meQ; rw [decide_eq_false a]; rfl)]
      exact Ev.neg (by rw [decide_eq_true_iff]; exact a) (Ev.now _)
theorem sMel (l : List S51) (hl : l.length ≤ 17592186044416) : Ev (fun k => spec_l09Ok.f k l) (melB l) :=
  sMel_l0 l hl l.length 0 (by omega)
theorem iMel_l0 (l : List S51) (hl : l.length ≤ 48) (d : Nat) : ∀ (i : Nat), i + d = l.length → Ev (fun k => impl_ValidMelody.l0 k l (l.length : Int) i) (allF (meQ l) l.length i) := by
  induction d with
  | zero =>
    intro i h1
    refine Ev.shift ?_
    simp only [impl_ValidMelody.l0]
    exact Ev.neg (by omega) (Ev.some (by rw [allF_end _ (by omega)]))
  | succ d ih =>
    intro i h1
    have w1 : wrap64 ((i : Int) + 1) = ((i + 1 : Nat) : Int) := by rw [wid (by omega)]; rfl
    have hr := ih (i + 1) (by omega)
    refine Ev.shift ?_
    simp only [impl_ValidMelody.l0, impl_pitchOk.f, impl_lengthOk.f, within_eq, Option.bind_some, rdNo, w1]
    refine Ev.pos (by omega) (Ev.pos (by omega) (Ev.pos (by omega) ?_))
    by_cases a : -12 ≤ (l.getD i z51).f0 ∧ (l.getD i z51).f0 ≤ 23
    · refine Ev.pos (decide_eq_true a) ?_
      by_cases b : 1 ≤ (l.getD i z51).f1 ∧ (l.getD i z51).f1 ≤ 64
      · rw [allF_yes _ (show meQ l i = true by unfold meQ; rw [decide_eq_true a, decide_eq_true b]; rfl)]
        exact Ev.pos (decide_eq_true b) hr
      · rw [allF_no _ (by omega) (show meQ l i = false by unfold meQ; rw [decide_eq_false b, Bool.and_false])]
        exact Ev.neg (by rw [decide_eq_true_iff]; exact b) (Ev.now _)
    · rw [allF_no _ (by omega) (show meQ l i = false by unfold meQ; rw [decide_eq_false a]; rfl)]
      exact Ev.neg (by rw [decide_eq_true_iff]; exact a) (Ev.now _)
theorem iMel (l : List S51) : Ev (fun k => impl_ValidMelody.f k l) (melB l) := by
  unfold impl_ValidMelody.f melB
  by_cases h : (l.length : Int) > 48
  · rw [decide_eq_false (show ¬ (l.length : Int) ≤ 48 by omega), Bool.and_false]
    exact Ev.pos h (Ev.now _)
  · rw [decide_eq_true (show (l.length : Int) ≤ 48 by omega), Bool.and_true]
    exact Ev.neg h (iMel_l0 l (by omega) l.length 0 (by omega))
def wsumN : Int → List S51 → Int
  | s, [] => s
  | s, x :: l => wsumN (wrap64 (s + x.f1)) l
theorem consN (g : List S51) (i : Nat) (h : i < g.length) : g.drop i = g.getD i z51 :: g.drop (i + 1) := by
  rw [List.drop_eq_getElem_cons h, List.getD_eq_getElem?_getD, List.getElem?_eq_getElem h]; rfl
theorem rdNo2 (l : List S51) (i : Nat) : rd_T51 l (i : Int) = l.getD i z51 := by
  unfold rd_T51
  rw [Int.toNat_natCast]
theorem sDur_l0 (l : List S51) (hl : l.length ≤ 17592186044416) (d : Nat) : ∀ (i : Nat) (s : Int), i + d = l.length → Ev (fun k => spec_l09Sum.l0 k l s i) (wsumN s (l.drop i)) := by
  induction d with
  | zero =>
    intro i s h1
    refine Ev.shift ?_
    simp only [spec_l09Sum.l0]
    rw [List.drop_of_length_le (by omega), wsumN]
    exact Ev.neg (by omega) (Ev.now _)
  | succ d ih =>
    intro i s h1
    have p1 : (i : Int) < (l.length : Int) := by omega
    have w1 : wrap64 ((i : Int) + 1) = ((i + 1 : Nat) : Int) := by rw [wid (by omega)]; rfl
    refine Ev.shift ?_
    simp only [spec_l09Sum.l0, rdNo2, w1]
    rw [consN l i (by omega), wsumN]
    exact Ev.pos p1 (Ev.pos (Int.natCast_nonneg _) (ih (i + 1) _ (by omega)))
theorem sDur (l : List S51) (hl : l.length ≤ 17592186044416) : Ev (fun k => spec_l09Sum.f k l) (wsumN 0 l) :=
  sDur_l0 l hl l.length 0 0 (by omega)
theorem iDur_l0 (l : List S51) (hl : l.length ≤ 17592186044416) (d : Nat) : ∀ (i : Nat) (s : Int), i + d = l.length → Ev (fun k => impl_durationOf.l0 k s l (l.length : Int) i) (wsumN s (l.drop i)) := by
  induction d with
  | zero =>
    intro i s h1
    refine Ev.shift ?_
    simp only [impl_durationOf.l0]
    rw [List.drop_of_length_le (by omega), wsumN]
    exact Ev.neg (by omega) (Ev.now _)
  | succ d ih =>
    intro i s h1
    have p1 : (i : Int) < (l.length : Int) := by omega
    have w1 : wrap64 ((i : Int) + 1) = ((i + 1 : Nat) : Int) := by rw [wid (by omega)]; rfl
    refine Ev.shift ?_
    simp only [impl_durationOf.l0, rdNo2, w1]
    rw [consN l i (by omega), wsumN]
    exact Ev.pos p1 (Ev.pos (Int.natCast_nonneg _) (Ev.pos p1 (ih (i + 1) _ (by omega))))
theorem iDur (l : List S51) (hl : l.length ≤ 17592186044416) : Ev (fun k => impl_durationOf.f k l) (wsumN 0 l) :=
  iDur_l0 l hl l.length 0 0 (by omega)
theorem and255 (x : Int) : 0 ≤ wrap64 (Go.bits .and .u64 x 255) ∧ wrap64 (Go.bits .and .u64 x 255) ≤ 255 := by
  have e : Go.bits .and .u64 x 255 = IntKind.u64.wrap ((BitVec.ofInt 64 x &&& BitVec.ofInt 64 255).toNat : Int) := rfl
  have h : (BitVec.ofInt 64 x &&& BitVec.ofInt 64 255).toNat ≤ 255 := by
    rw [BitVec.toNat_and]
    exact Nat.le_trans Nat.and_le_right (by decide)
  generalize (BitVec.ofInt 64 x &&& BitVec.ofInt 64 255).toNat = n at e h
  have e2 : IntKind.u64.wrap (n : Int) = n := by
    unfold IntKind.wrap
    simp [IntKind.bits, IntKind.signed]
    omega
  rw [e, e2, wid (by omega)]
  omega
def bytesB (l : List Int) : Prop := ∀ j, j < l.length → 0 ≤ l.getD j 0 ∧ l.getD j 0 ≤ 255
theorem next_ok (l : List Int) (hb : bytesB l) (a s : Int) (h0 : 0 ≤ a) (h1 : a ≤ 4000000000000000000) : ∃ v s', spec_l00Src_next.f l a s = some (v, a + 1, s') ∧ 0 ≤ v ∧ v ≤ 255 := by
  unfold spec_l00Src_next.f
  rw [wid (x := a + 1) (by omega)]
  by_cases c : a < (l.length : Int)
  · have q := hb a.toNat (by omega)
    have e : rd l a = l.getD a.toNat 0 := rfl
    rw [if_pos c, if_pos h0, if_pos (by omega), e, wid (x := l.getD a.toNat 0) (by omega)]
    exact ⟨_, _, rfl, q⟩
  · rw [if_neg c, if_neg (by omega)]
    exact ⟨_, _, rfl, and255 _⟩
theorem pick_ok (l : List Int) (hb : bytesB l) (a s n : Int) (h0 : 0 ≤ a) (h1 : a ≤ 3000000000000000000) (hn : n ≤ 1000000) : ∃ v a' s', spec_l00Src_pick.f l a s n = some (v, a', s') ∧ 0 ≤ v ∧ (v < n ∨ v = 0) ∧ a ≤ a' ∧ a' ≤ a + 2 := by
  unfold spec_l00Src_pick.f
  by_cases c : n ≤ 1
  · rw [if_pos c]; exact ⟨_, _, _, rfl, Int.le_refl _, .inr rfl, Int.le_refl _, by omega⟩
  rw [if_neg c]
  obtain ⟨v, s1, e1, v0, v1⟩ := next_ok l hb a s h0 (by omega)
  rw [e1]
  simp only [Option.bind_some]
  have tm : ∀ x : Int, 0 ≤ x → 0 ≤ Int.tmod x n ∧ Int.tmod x n < n := fun x hx => by
    rw [Int.tmod_eq_emod_of_nonneg hx]
    exact ⟨Int.emod_nonneg _ (by omega), Int.emod_lt_of_pos _ (by omega)⟩
  by_cases c2 : n > 200
  · rw [if_pos c2]
    obtain ⟨v', s2, e2, v0', v1'⟩ := next_ok l hb (a + 1) s1 (by omega) (by omega)
    rw [e2]
    simp only [Option.bind_some]
    rw [if_neg (by omega), wid (x := v * 256) (by omega), wid (x := v * 256 + v') (by omega)]
    have := tm (v * 256 + v') (by omega)
    exact ⟨_, _, _, rfl, this.1, .inl this.2, by omega, by omega⟩
  · rw [if_neg c2, if_neg (by omega)]
    have := tm v v0
    exact ⟨_, _, _, rfl, this.1, .inl this.2, by omega, by omega⟩
theorem among_ok (l : List Int) (hb : bytesB l) (a s : Int) (m : List Int) (h0 : 0 ≤ a) (h1 : a ≤ 3000000000000000000) (hm : 0 < m.length) (hm2 : m.length ≤ 1000000) : ∃ v a' s', spec_l00Src_among.f l a s m = some (v, a', s') ∧ v ∈ m ∧ a ≤ a' ∧ a' ≤ a + 2 := by
  unfold spec_l00Src_among.f
  obtain ⟨v, a', s', e, v0, v1, a0, a1⟩ := pick_ok l hb a s (m.length : Int) h0 h1 (by omega)
  rw [e]
  simp only [Option.bind_some]
  have hv : v < (m.length : Int) := by rcases v1 with h | h <;> omega
  rw [if_pos v0, if_pos hv]
  refine ⟨_, _, _, rfl, ?_, a0, a1⟩
  have : rd m v = m.getD v.toNat 0 := rfl
  rw [this, List.getD_eq_getElem?_getD, List.getElem?_eq_getElem (by omega)]
  exact List.getElem_mem _
theorem one_ok (l : List Int) (hb : bytesB l) (a s n : Int) (h0 : 0 ≤ a) (h1 : a ≤ 3000000000000000000) (hn : n ≤ 1000000) : ∃ v a' s', spec_l00Src_one.f l a s n = some (v, a', s') ∧ a ≤ a' ∧ a' ≤ a + 2 := by
  unfold spec_l00Src_one.f
  obtain ⟨v, a', s', e, v0, v1, a0, a1⟩ := pick_ok l hb a s n h0 h1 hn
  rw [e]
  exact ⟨_, _, _, rfl, a0, a1⟩
theorem text_mem (l : List Int) (hb : bytesB l) (a s : Int) (m : List ByteArray) (h0 : 0 ≤ a) (h1 : a ≤ 3000000000000000000) (hm : 0 < m.length) (hm2 : m.length ≤ 1000000) : ∃ v a' s', spec_l00Src_text.f l a s m = some (v, a', s') ∧ v ∈ m ∧ a ≤ a' ∧ a' ≤ a + 2 := by
  unfold spec_l00Src_text.f
  obtain ⟨v, a', s', e, v0, v1, a0, a1⟩ := pick_ok l hb a s (m.length : Int) h0 h1 (by omega)
  rw [e]
  simp only [Option.bind_some]
  have hv : v < (m.length : Int) := by rcases v1 with h | h <;> omega
  rw [if_pos v0, if_pos hv]
  refine ⟨_, _, _, rfl, ?_, a0, a1⟩
  have e : rdOf ByteArray.empty m v = m.getD v.toNat ByteArray.empty := rfl
  rw [e, List.getD_eq_getElem?_getD, List.getElem?_eq_getElem (by omega)]
  exact List.getElem_mem _
theorem read6 (t : ByteArray) (ht : t ∈ ([(⟨#[116, 105, 110, 116, 97, 108, 32, 52, 88, 32, 52, 43, 32, 52, 111, 32, 52, 43]⟩ : ByteArray), (⟨#[106, 104, 97, 112, 116, 97, 108, 32, 50, 88, 32, 51, 43, 32, 50, 111, 32, 51, 43]⟩ : ByteArray), (⟨#[114, 117, 112, 97, 107, 32, 51, 88, 32, 50, 43, 32, 50, 43]⟩ : ByteArray), (⟨#[101, 107, 116, 97, 108, 32, 50, 88, 32, 50, 111, 32, 50, 43, 32, 50, 111, 32, 50, 43, 32, 50, 43]⟩ : ByteArray), (⟨#[100, 97, 100, 114, 97, 32, 51, 88, 32, 51, 111]⟩ : ByteArray), (⟨#[111, 110, 101, 32, 49, 88]⟩ : ByteArray)] : List ByteArray)) : ∃ nm S M, spec_l17Read.f 60 t = some (nm, S, M, true) ∧ talaB nm S M = true := by
  simp only [List.mem_cons, List.not_mem_nil, or_false] at ht
  rcases ht with rfl | rfl | rfl | rfl | rfl | rfl
  · exact ⟨⟨#[116, 105, 110, 116, 97, 108]⟩, [4, 4, 4, 4], [1, 2, 3, 2], by kernel_rfl, by kernel_rfl⟩
  · exact ⟨⟨#[106, 104, 97, 112, 116, 97, 108]⟩, [2, 3, 2, 3], [1, 2, 3, 2], by kernel_rfl, by kernel_rfl⟩
  · exact ⟨⟨#[114, 117, 112, 97, 107]⟩, [3, 2, 2], [1, 2, 2], by kernel_rfl, by kernel_rfl⟩
  · exact ⟨⟨#[101, 107, 116, 97, 108]⟩, [2, 2, 2, 2, 2, 2], [1, 3, 2, 3, 2, 2], by kernel_rfl, by kernel_rfl⟩
  · exact ⟨⟨#[100, 97, 100, 114, 97]⟩, [3, 3], [1, 3], by kernel_rfl, by kernel_rfl⟩
  · exact ⟨⟨#[111, 110, 101]⟩, [1], [1], by kernel_rfl, by kernel_rfl⟩
theorem wsum_app1 (x : Int) : ∀ (l : List Int) (s : Int), wsum s (l ++ [x]) = wrap64 (wsum s l + x)
  | [], s => rfl
  | y :: ys, s => wsum_app1 x ys (wrap64 (s + y))
theorem newTala (S M : List Int) (h1 : S.length = M.length) (h2 : 1 ≤ S.length) (h3 : S.length ≤ 4) (h4 : ∀ j, j < S.length → taQ S M j = true) (h5 : wsum 0 S ≤ 32) : talaB (⟨#[110, 101, 119]⟩ : ByteArray) S M = true := by
  unfold talaB
  rw [show nameB (⟨#[110, 101, 119]⟩ : ByteArray) = true by kernel_rfl, Bool.true_and, Bool.and_eq_true, Bool.and_eq_true, Bool.and_eq_true, decide_eq_true_iff, decide_eq_true_iff, decide_eq_true_iff]
  exact ⟨by omega, by omega, (allF_iff _).2 fun j hj _ => h4 j hj, h5⟩
theorem taQ_app {S M : List Int} {x y : Int} (h1 : S.length = M.length) (h2 : 1 ≤ S.length) (h4 : ∀ j, j < S.length → taQ S M j = true) (hx : 1 ≤ x ∧ x ≤ 16) (hy : 2 ≤ y ∧ y ≤ 3) : ∀ j, j < (S ++ [x]).length → taQ (S ++ [x]) (M ++ [y]) j = true := by
  intro j hj
  rw [List.length_append, List.length_singleton] at hj
  by_cases e : j = S.length
  · subst e
    unfold taQ
    have e1 : (S ++ [x]).getD S.length 0 = x := by rw [List.getD_eq_getElem?_getD, List.getElem?_append_right (Nat.le_refl _), Nat.sub_self]; rfl
    have e2 : (M ++ [y]).getD S.length 0 = y := by rw [h1, List.getD_eq_getElem?_getD, List.getElem?_append_right (Nat.le_refl _), Nat.sub_self]; rfl
    rw [e1, e2, if_neg (by omega), Bool.and_eq_true, decide_eq_true_iff, decide_eq_true_iff]
    exact ⟨hx, hy⟩
  · have := h4 j (by omega)
    unfold taQ at this ⊢
    have e1 : (S ++ [x]).getD j 0 = S.getD j 0 := by rw [List.getD_eq_getElem?_getD, List.getElem?_append_left (by omega), ← List.getD_eq_getElem?_getD]
    have e2 : (M ++ [y]).getD j 0 = M.getD j 0 := by rw [List.getD_eq_getElem?_getD, List.getElem?_append_left (by omega), ← List.getD_eq_getElem?_getD]
    rw [e1, e2]; exact this
theorem draw17_l0 (l : List Int) (hb : bytesB l) (d : Nat) : ∀ (v : Int) (S M : List Int) (a s : Int), v = d → S.length + d ≤ 4 → S.length = M.length → 1 ≤ S.length → (∀ j, j < S.length → taQ S M j = true) → wsum 0 S + 6 * d ≤ 32 → 0 ≤ wsum 0 S → 0 ≤ a → a ≤ 1000000 - 8 * (d : Int) → ∃ (S' M' : List Int) (a' s' : Int), talaB (⟨#[110, 101, 119]⟩ : ByteArray) S' M' = true ∧ Ev (fun k => spec_l17Draw.l0 k v l a s (⟨#[110, 101, 119]⟩ : ByteArray) S M) ((⟨#[110, 101, 119]⟩ : ByteArray), S', M', a', s') := by
  induction d with
  | zero =>
    intro v S M a s hv h1 h2 h3 h4 h5 h6 h7 h8
    refine ⟨S, M, a, s, newTala S M h2 h3 (by omega) h4 (by omega), Ev.shift ?_⟩
    simp only [spec_l17Draw.l0]
    exact Ev.neg (by omega) (Ev.now _)
  | succ d ih =>
    intro v S M a s hv h1 h2 h3 h4 h5 h6 h7 h8
    obtain ⟨x, a1, s1, e1, x0, x1, b1, b2⟩ := pick_ok l hb a s 6 h7 (by omega) (by omega)
    obtain ⟨y, a2, s2, e2, y0, y1, b3, b4⟩ := pick_ok l hb a1 s1 2 (by omega) (by omega) (by omega)
    have hx : x < 6 := by rcases x1 with h | h <;> omega
    have hy : y < 2 := by rcases y1 with h | h <;> omega
    have w1 : wrap64 (1 + x) = 1 + x := wid (by omega)
    have w2 : wrap64 (2 + y) = 2 + y := wid (by omega)
    have w3 : wrap64 (v - 1) = v - 1 := wid (by omega)
    have hs : wsum 0 (S ++ [1 + x]) = wsum 0 S + (1 + x) := by rw [wsum_app1, wid (by omega)]
    obtain ⟨S', M', a', s', q1, q2⟩ := ih (v - 1) (S ++ [1 + x]) (M ++ [2 + y]) a2 s2 (by omega) (by rw [List.length_append, List.length_singleton]; omega) (by rw [List.length_append, List.length_append, List.length_singleton, List.length_singleton]; omega) (by rw [List.length_append, List.length_singleton]; omega) (taQ_app h2 h3 h4 (by omega) (by omega)) (by rw [hs]; omega) (by rw [hs]; omega) (by omega) (by omega)
    refine ⟨S', M', a', s', q1, Ev.shift ?_⟩
    simp only [spec_l17Draw.l0, e1, e2, Option.bind_some, w1, w2, w3]
    exact Ev.pos (by omega) (Ev.pos (by omega) (Ev.pos (by omega) q2))
theorem draw17 (l : List Int) (hb : bytesB l) (a s : Int) (h0 : 0 ≤ a) (h1 : a ≤ 1000) : ∃ (nm : ByteArray) (S M : List Int) (a' s' : Int), talaB nm S M = true ∧ Ev (fun k => spec_l17Draw.f k l a s) (nm, S, M, a', s') := by
  unfold spec_l17Draw.f
  obtain ⟨t, a1, s1, e1, ht, b1, b2⟩ := text_mem l hb a s _ h0 (by omega) (show 0 < ([(⟨#[116, 105, 110, 116, 97, 108, 32, 52, 88, 32, 52, 43, 32, 52, 111, 32, 52, 43]⟩ : ByteArray), (⟨#[106, 104, 97, 112, 116, 97, 108, 32, 50, 88, 32, 51, 43, 32, 50, 111, 32, 51, 43]⟩ : ByteArray), (⟨#[114, 117, 112, 97, 107, 32, 51, 88, 32, 50, 43, 32, 50, 43]⟩ : ByteArray), (⟨#[101, 107, 116, 97, 108, 32, 50, 88, 32, 50, 111, 32, 50, 43, 32, 50, 111, 32, 50, 43, 32, 50, 43]⟩ : ByteArray), (⟨#[100, 97, 100, 114, 97, 32, 51, 88, 32, 51, 111]⟩ : ByteArray), (⟨#[111, 110, 101, 32, 49, 88]⟩ : ByteArray)] : List ByteArray).length by simp) (by simp)
  obtain ⟨nm, S, M, hr, htb⟩ := read6 t ht
  have hrd : Ev (fun k => spec_l17Read.f k t) (nm, S, M, true) := Ev.of (fun k => spec_l17Read.mono t k) hr
  obtain ⟨v, a2, s2, e2, b3, b4⟩ := one_ok l hb a1 s1 4 (by omega) (by omega) (by omega)
  rw [e1]
  simp only [Option.bind_some]
  cases v with
  | false =>
    refine ⟨nm, S, M, a2, s2, htb, Ev.bind hrd (Ev.pos rfl ?_)⟩
    rw [e2]
    simp only [Option.bind_some]
    refine Ev.shift ?_
    simp only [spec_l17Draw.j0]
    exact Ev.neg (by simp) (Ev.now _)
  | true =>
    obtain ⟨x, a3, s3, e3, x0, x1, b5, b6⟩ := pick_ok l hb a2 s2 8 (by omega) (by omega) (by omega)
    obtain ⟨v, a4, s4, e4, v0, v1, b7, b8⟩ := pick_ok l hb a3 s3 4 (by omega) (by omega) (by omega)
    have hx : x < 8 := by rcases x1 with h | h <;> omega
    have hv : v < 4 := by rcases v1 with h | h <;> omega
    have w1 : wrap64 (1 + x) = 1 + x := wid (by omega)
    have hs : wsum 0 [1 + x] = 1 + x := by show wrap64 (0 + (1 + x)) = _; rw [wid (by omega)]; omega
    obtain ⟨S', M', a', s', q1, q2⟩ := draw17_l0 l hb v.toNat v [1 + x] [1] a4 s4 (by omega) (by simp; omega) rfl (by simp) (fun j hj => by
      have : j = 0 := by simpa using hj
      subst this
      unfold taQ
      rw [if_pos rfl, Bool.and_eq_true, decide_eq_true_iff, decide_eq_true_iff]
      exact ⟨by simp; omega, rfl⟩) (by rw [hs]; omega) (by rw [hs]; omega) (by omega) (by omega)
    refine ⟨_, S', M', a', s', q1, Ev.bind hrd (Ev.pos rfl ?_)⟩
    rw [e2]
    simp only [Option.bind_some]
    refine Ev.shift ?_
    simp only [spec_l17Draw.j0, e3, e4, Option.bind_some, w1]
    exact Ev.pos trivial q2
theorem rTala (l : List Int) (hb : bytesB l) : ∃ nm S M, talaB nm S M = true ∧ Ev (fun k => spec_R8Tala.f k l) (nm, S, M) := by
  obtain ⟨nm, S, M, a', s', h1, h2⟩ := draw17 l hb 0 0 (Int.le_refl _) (by omega)
  refine ⟨nm, S, M, h1, ?_⟩
  unfold spec_R8Tala.f spec_l00From.f
  simp only [Option.bind_some]
  exact Ev.bind h2 (Ev.now _)
theorem talaB_len {s : ByteArray} {a b : List Int} (h : talaB s a b = true) : (1 ≤ a.length ∧ a.length ≤ 8) ∧ ∀ j, j < a.length → 1 ≤ a.getD j 0 ∧ a.getD j 0 ≤ 16 := by
  unfold talaB at h
  rw [Bool.and_eq_true, Bool.and_eq_true, Bool.and_eq_true, Bool.and_eq_true, decide_eq_true_iff, decide_eq_true_iff, allF_iff] at h
  obtain ⟨_, h1, _, h2, _⟩ := h
  refine ⟨by omega, fun j hj => ?_⟩
  have := h2 j hj (Nat.zero_le _)
  unfold taQ at this
  rw [Bool.and_eq_true, decide_eq_true_iff] at this
  exact this.1
def okN (y : S51) : Prop := (-12 ≤ y.f0 ∧ y.f0 ≤ 23) ∧ 1 ≤ y.f1 ∧ y.f1 ≤ 64
theorem melB_ok {l : List S51} (h : melB l = true) : l.length ≤ 48 ∧ ∀ y ∈ l, okN y := by
  unfold melB at h
  rw [Bool.and_eq_true, decide_eq_true_iff, allF_iff] at h
  refine ⟨by omega, fun y hy => ?_⟩
  obtain ⟨j, hj, rfl⟩ := List.getElem_of_mem hy
  have := h.1 j hj (Nat.zero_le _)
  unfold meQ at this
  rw [Bool.and_eq_true, decide_eq_true_iff, decide_eq_true_iff, List.getD_eq_getElem?_getD, List.getElem?_eq_getElem hj] at this
  exact this
theorem melB_mk {l : List S51} (h : l.length ≤ 48) (hv : ∀ y ∈ l, okN y) : melB l = true := by
  unfold melB
  rw [Bool.and_eq_true, decide_eq_true_iff, allF_iff]
  refine ⟨fun j hj _ => ?_, by omega⟩
  have := hv _ (List.getElem_mem hj)
  unfold meQ
  rw [Bool.and_eq_true, decide_eq_true_iff, decide_eq_true_iff, List.getD_eq_getElem?_getD, List.getElem?_eq_getElem hj]
  exact this
def dN : List S51 → Int
  | [] => 0
  | y :: ys => y.f1 + dN ys
theorem dN_app : ∀ (x y : List S51), dN (x ++ y) = dN x + dN y
  | [], y => by simp [dN]
  | a :: x, y => by show a.f1 + dN (x ++ y) = a.f1 + dN x + dN y; rw [dN_app x y]; omega
theorem wsumN_dN : ∀ (l : List S51) (s : Int), 0 ≤ s → (∀ y ∈ l, okN y) → s + 64 * l.length ≤ 1000000 → wsumN s l = s + dN l ∧ 0 ≤ dN l ∧ dN l ≤ 64 * l.length
  | [], s, h1, _, h3 => by simp [wsumN, dN]
  | x :: l, s, h1, h2, h3 => by
    have hx := (h2 x (by simp)).2
    rw [List.length_cons] at h3
    have ih := wsumN_dN l (s + x.f1) (by omega) (fun y hy => h2 y (by simp [hy])) (by omega)
    rw [wsumN, wid (by omega), List.length_cons, ih.1]
    show s + x.f1 + dN l = s + (x.f1 + dN l) ∧ 0 ≤ x.f1 + dN l ∧ x.f1 + dN l ≤ _
    omega
theorem iNoB (l : List S51) (s : ByteArray) (a b : List Int) (x : Int) (hm : melB l = true) (ht : talaB s a b = true) (hx : 1 ≤ x ∧ x ≤ 8) : Ev (fun k => impl_notationCode.f k l s a b x) 0 := by
  have h1 := iMel l
  have h2 := iTala s a b (by have := (talaB_len ht).1; omega)
  rw [hm] at h1
  rw [ht] at h2
  unfold impl_notationCode.f
  refine Ev.bind h1 (Ev.pos rfl (Ev.bind h2 (Ev.shift ?_)))
  simp only [impl_notationCode.j0, within_eq, Option.bind_some]
  exact Ev.neg (by simp) (Ev.pos (decide_eq_true hx) (Ev.now _))
theorem iBeatsB (s : ByteArray) (a b : List Int) (ha : a.length ≤ 35184372088832) : Ev (fun k => impl_Tala_beats.f k s a b) (wsum 0 a) := by
  unfold impl_Tala_beats.f
  exact Ev.bind (iWsum a ha) (Ev.now _)
theorem uB {s : ByteArray} {a b : List Int} {x : Int} (ht : talaB s a b = true) (hx : 1 ≤ x ∧ x ≤ 8) : wrap64 (wsum 0 a * x) = wsum 0 a * x ∧ 1 ≤ wsum 0 a * x ∧ wsum 0 a * x ≤ 256 := by
  have hsum := talaB_sum ht
  have m1 : wsum 0 a * x ≤ 32 * 8 := Int.mul_le_mul hsum.2 hx.2 (by omega) (by omega)
  have m2 : 1 * 1 ≤ wsum 0 a * x := Int.mul_le_mul hsum.1 hx.1 (by omega) (by omega)
  exact ⟨wid (by omega), by omega, by omega⟩
theorem iCyc (l : List S51) (s : ByteArray) (a b : List Int) (x : Int) (hm : melB l = true) (ht : talaB s a b = true) (hx : 1 ≤ x ∧ x ≤ 8) : Ev (fun k => impl_CyclesOf.f k l s a b x) (dN l / (wsum 0 a * x), dN l % (wsum 0 a * x), 0) := by
  obtain ⟨h48, hv⟩ := melB_ok hm
  obtain ⟨w, u1, u2⟩ := uB ht hx
  have hl := (talaB_len ht).1
  obtain ⟨e1, e2, e3⟩ := wsumN_dN l 0 (Int.le_refl _) hv (by omega)
  rw [Int.zero_add] at e1
  have hd := iDur l (by omega)
  rw [e1] at hd
  unfold impl_CyclesOf.f
  refine Ev.bind (iNoB l s a b x hm ht hx) (Ev.pos rfl (Ev.bind (iBeatsB s a b (by omega)) ?_))
  simp only [w]
  generalize wsum 0 a * x = u at *
  refine Ev.bind hd (Ev.neg (by omega) (Ev.bind hd (Ev.some ?_)))
  have hq1 := Int.ediv_nonneg e2 (show 0 ≤ u by omega)
  have hq2 := Int.ediv_le_self u e2
  rw [Int.tdiv_eq_ediv_of_nonneg e2, Int.tmod_eq_emod_of_nonneg e2, wid (by omega)]
theorem padB (p : Int) (hp : -12 ≤ p ∧ p ≤ 23) (n : Nat) : ∀ (left : Nat) (acc : List S51), left ≤ 64 * n → acc.length + n ≤ 48 → ∃ r : List S51, (∀ y ∈ r, okN y) ∧ dN r = left ∧ r.length ≤ n ∧ Ev (fun k => impl_PadMelody.l0 k p acc (left : Int)) (acc ++ r, 0) := by
  have stop : ∀ (acc : List S51), acc.length ≤ 48 → Ev (fun k => impl_PadMelody.l0 k p acc ((0 : Nat) : Int)) (acc ++ [], 0) := by
    intro acc ha
    refine Ev.shift ?_
    simp only [impl_PadMelody.l0]
    rw [List.append_nil]
    exact Ev.neg (by omega) (Ev.neg (by omega) (Ev.now _))
  induction n with
  | zero =>
    intro left acc h1 h2
    obtain rfl : left = 0 := by omega
    exact ⟨[], by simp, rfl, Nat.le_refl _, stop acc (by omega)⟩
  | succ n ih =>
    intro left acc h1 h2
    by_cases h0 : left = 0
    · subst h0; exact ⟨[], by simp, rfl, Nat.zero_le _, stop acc (by omega)⟩
    · obtain ⟨m, hm, e1⟩ : ∃ m : Nat, (1 ≤ m ∧ m ≤ 64 ∧ m ≤ left ∧ (m = 64 ∨ m = left)) ∧ mn (left : Int) 64 = (m : Int) := by
        by_cases c : left < 64
        · exact ⟨left, by omega, by rw [mn_eq]; omega⟩
        · exact ⟨64, by omega, by rw [mn_eq]; omega⟩
      have w : wrap64 ((left : Int) - m) = ((left - m : Nat) : Int) := by rw [wid (by omega)]; omega
      obtain ⟨r, r1, r2, r3, r4⟩ := ih (left - m) (acc ++ [⟨p, (m : Int)⟩]) (by omega) (by rw [List.length_append, List.length_singleton]; omega)
      refine ⟨⟨p, (m : Int)⟩ :: r, fun y hy => ?_, ?_, by rw [List.length_cons]; omega, Ev.shift ?_⟩
      · rcases List.mem_cons.1 hy with rfl | hy
        · exact ⟨hp, by show 1 ≤ (m : Int); omega, by show (m : Int) ≤ 64; omega⟩
        · exact r1 y hy
      · show (m : Int) + dN r = _
        rw [r2]; omega
      · simp only [impl_PadMelody.l0, e1, w]
        rw [List.append_assoc] at r4
        exact Ev.pos (by omega) (Ev.pos (by omega) r4)
theorem iPad (l : List S51) (s : ByteArray) (a b : List Int) (x : Int) (hm : melB l = true) (h9 : l.length ≤ 40) (ht : talaB s a b = true) (hx : 1 ≤ x ∧ x ≤ 8) : ∃ r : List S51, (∀ y ∈ r, okN y) ∧ dN r = (wsum 0 a * x - dN l % (wsum 0 a * x)) % (wsum 0 a * x) ∧ r.length ≤ 4 ∧ Ev (fun k => impl_PadMelody.f k l s a b x 0) (l ++ r, 0) := by
  obtain ⟨h48, hv⟩ := melB_ok hm
  obtain ⟨w, u1, u2⟩ := uB ht hx
  have hl := (talaB_len ht).1
  obtain ⟨e1, e2, e3⟩ := wsumN_dN l 0 (Int.le_refl _) hv (by omega)
  rw [Int.zero_add] at e1
  have hd := iDur l (by omega)
  rw [e1] at hd
  have hno := iNoB l s a b x hm ht hx
  have hbt := iBeatsB s a b (by omega)
  generalize hu : wsum 0 a * x = u at *
  have t1 : Int.tmod (dN l) u = dN l % u := Int.tmod_eq_emod_of_nonneg e2
  have t2 := Int.emod_nonneg (dN l) (show u ≠ 0 by omega)
  have t3 := Int.emod_lt_of_pos (dN l) (show 0 < u by omega)
  have w2 : wrap64 (u - Int.tmod (dN l) u) = u - dN l % u := by rw [t1]; exact wid (by omega)
  have t4 : Int.tmod (u - dN l % u) u = (u - dN l % u) % u := Int.tmod_eq_emod_of_nonneg (by omega)
  have t5 := Int.emod_nonneg (u - dN l % u) (show u ≠ 0 by omega)
  have t6 := Int.emod_lt_of_pos (u - dN l % u) (show 0 < u by omega)
  obtain ⟨n, hn⟩ := Int.eq_ofNat_of_zero_le t5
  obtain ⟨r, r1, r2, r3, r4⟩ := padB 0 (by omega) 4 n l (by omega) (by omega)
  refine ⟨r, r1, by rw [r2, hn], r3, ?_⟩
  have hN : impl_Note.f l = some l := by
    unfold impl_Note.f
    simp
    omega
  unfold impl_PadMelody.f impl_pitchOk.f
  simp only [within_eq, Option.bind_some, hN]
  refine Ev.bind hno (Ev.pos rfl (Ev.pos (by decide) (Ev.bind hbt ?_)))
  simp only [hu, w]
  refine Ev.bind hd (Ev.neg (by omega) ?_)
  rw [w2, t4, hn]
  exact r4
/-- Where the notes begin that begin at the first beat. -/
def sam (u : Int) : Nat → Int → List S51 → List Int
  | _, _, [] => []
  | i, t, y :: ys => if t % u = 0 then (i : Int) :: sam u (i + 1) (t + y.f1) ys else sam u (i + 1) (t + y.f1) ys
theorem sam_mem (u : Int) : ∀ (l : List S51) (i : Nat) (t : Int) (j : Int), j ∈ sam u i t l ↔ ∃ q : Nat, q < l.length ∧ j = ((i + q : Nat) : Int) ∧ (t + dN (l.take q)) % u = 0
  | [], i, t, j => by simp [sam]
  | y :: ys, i, t, j => by
    have ih := sam_mem u ys (i + 1) (t + y.f1) j
    have key : (∃ q : Nat, q < (y :: ys).length ∧ j = ((i + q : Nat) : Int) ∧ (t + dN ((y :: ys).take q)) % u = 0) ↔ (j = (i : Int) ∧ t % u = 0) ∨ j ∈ sam u (i + 1) (t + y.f1) ys := by
      rw [ih]
      constructor
      · rintro ⟨q, h1, h2, h3⟩
        cases q with
        | zero => exact .inl ⟨h2, by simpa [dN] using h3⟩
        | succ q =>
          refine .inr ⟨q, by simpa using h1, by rw [h2]; congr 1; omega, ?_⟩
          rw [List.take_succ_cons] at h3
          have e : dN (y :: ys.take q) = y.f1 + dN (ys.take q) := rfl
          rw [e, ← Int.add_assoc] at h3
          exact h3
      · rintro (⟨h1, h2⟩ | ⟨q, h1, h2, h3⟩)
        · exact ⟨0, by simp, h1, by simpa [dN] using h2⟩
        · refine ⟨q + 1, by simpa using h1, by rw [h2]; congr 1; omega, ?_⟩
          rw [List.take_succ_cons]
          have e : dN (y :: ys.take q) = y.f1 + dN (ys.take q) := rfl
          rw [e, ← Int.add_assoc]
          exact h3
    rw [key]
    show j ∈ (if t % u = 0 then (i : Int) :: sam u (i + 1) (t + y.f1) ys else sam u (i + 1) (t + y.f1) ys) ↔ _
    by_cases c : t % u = 0
    · rw [if_pos c, List.mem_cons]
      exact ⟨fun h => h.elim (fun h => .inl ⟨h, c⟩) .inr, fun h => h.elim (fun h => .inl h.1) .inr⟩
    · rw [if_neg c]
      exact ⟨.inr, fun h => h.elim (fun h => absurd h.2 c) id⟩
theorem sam_len (u : Int) : ∀ (l : List S51) (i : Nat) (t : Int), (sam u i t l).length ≤ l.length
  | [], _, _ => Nat.le_refl _
  | y :: ys, i, t => by
    have ih := sam_len u ys (i + 1) (t + y.f1)
    show (if t % u = 0 then (i : Int) :: sam u (i + 1) (t + y.f1) ys else sam u (i + 1) (t + y.f1) ys).length ≤ _
    split <;> simp only [List.length_cons] <;> omega
theorem iSam_l0 (a b : List Int) (s : ByteArray) (x u : Int) (hu : wrap64 (wsum 0 a * x) = u) (hn : 1 ≤ u) (ha : a.length ≤ 35184372088832) (l : List S51) (hl : l.length ≤ 48) (hv : ∀ y ∈ l, okN y) (d : Nat) : ∀ (i : Nat) (t : Int) (acc : List Int), i + d = l.length → acc.length ≤ i → 0 ≤ t → t ≤ 64 * i → Ev (fun k => impl_NotesAtSam.l0 k x acc t l (l.length : Int) i s a b) (acc ++ sam u i t (l.drop i), 0) := by
  have hB := iBeatsB s a b ha
  induction d with
  | zero =>
    intro i t acc h1 h2 h3 h4
    refine Ev.shift ?_
    simp only [impl_NotesAtSam.l0]
    rw [List.drop_of_length_le (by omega)]
    exact Ev.neg (by omega) (Ev.some (by simp [sam]))
  | succ d ih =>
    intro i t acc h1 h2 h3 h4
    have hi : i < l.length := by omega
    have p1 : (i : Int) < (l.length : Int) := by omega
    have w1 : wrap64 ((i : Int) + 1) = ((i + 1 : Nat) : Int) := by rw [wid (by omega)]; rfl
    have hg : l.getD i z51 = l[i] := by rw [List.getD_eq_getElem?_getD, List.getElem?_eq_getElem hi]; rfl
    have hy := (hv _ (List.getElem_mem hi)).2
    have w2 : wrap64 (t + (l[i]).f1) = t + (l[i]).f1 := wid (by omega)
    have tm : Int.tmod t u = t % u := Int.tmod_eq_emod_of_nonneg h3
    rw [List.drop_eq_getElem_cons hi]
    show Ev _ (acc ++ (if t % u = 0 then (i : Int) :: sam u (i + 1) (t + (l[i]).f1) (l.drop (i + 1)) else sam u (i + 1) (t + (l[i]).f1) (l.drop (i + 1))), 0)
    by_cases c : t % u = 0
    · have X := ih (i + 1) (t + (l[i]).f1) (acc ++ [(i : Int)]) (by omega) (by rw [List.length_append, List.length_singleton]; omega) (by omega) (by omega)
      rw [if_pos c]
      rw [List.append_assoc] at X
      refine Ev.shift ?_
      simp only [impl_NotesAtSam.l0, rdNo, w1, hg, w2]
      refine Ev.pos p1 (Ev.pos (Int.natCast_nonneg _) (Ev.pos p1 (Ev.bind hB ?_)))
      rw [hu, tm]
      exact Ev.neg (by omega) (Ev.pos c (Ev.pos (by omega) X))
    · have X := ih (i + 1) (t + (l[i]).f1) acc (by omega) (by omega) (by omega) (by omega)
      rw [if_neg c]
      refine Ev.shift ?_
      simp only [impl_NotesAtSam.l0, rdNo, w1, hg, w2]
      refine Ev.pos p1 (Ev.pos (Int.natCast_nonneg _) (Ev.pos p1 (Ev.bind hB ?_)))
      rw [hu, tm]
      exact Ev.neg (by omega) (Ev.neg c X)
theorem iSam (l : List S51) (s : ByteArray) (a b : List Int) (x : Int) (hm : melB l = true) (ht : talaB s a b = true) (hx : 1 ≤ x ∧ x ≤ 8) : Ev (fun k => impl_NotesAtSam.f k l s a b x) (sam (wsum 0 a * x) 0 0 l, 0) := by
  obtain ⟨h48, hv⟩ := melB_ok hm
  obtain ⟨w, u1, u2⟩ := uB ht hx
  have hl := (talaB_len ht).1
  unfold impl_NotesAtSam.f
  have X := iSam_l0 a b s x (wsum 0 a * x) w u1 (by omega) l h48 hv l.length 0 0 [] (by omega) (Nat.le_refl _) (Int.le_refl _) (by omega)
  rw [List.drop_zero, List.nil_append] at X
  exact Ev.bind (iNoB l s a b x hm ht hx) (Ev.pos rfl X)
/-! the parts -/
def pr (y : S78) : List Int := [y.f0, y.f1]
def tot (i : Int) : List S78 → Int
  | [] => 0
  | p :: ps => (if p.f0 = i then p.f1 else 0) + tot i ps
theorem tot_app1 (i : Int) (p : S78) : ∀ P : List S78, tot i (P ++ [p]) = tot i P + (if p.f0 = i then p.f1 else 0)
  | [] => by simp [tot]
  | q :: P => by show (if q.f0 = i then q.f1 else 0) + tot i (P ++ [p]) = (if q.f0 = i then q.f1 else 0) + tot i P + _; rw [tot_app1 i p P]; omega
def okP (n : Nat) (p : S78) : Prop := (0 ≤ p.f0 ∧ p.f0 < (n : Int)) ∧ 1 ≤ p.f1 ∧ p.f1 ≤ 64
theorem tot_bd (n : Nat) (i : Int) : ∀ P : List S78, (∀ p ∈ P, okP n p) → 0 ≤ tot i P ∧ tot i P ≤ 64 * P.length
  | [], _ => by simp [tot]
  | p :: P, h => by
    have ih := tot_bd n i P fun q hq => h q (List.mem_cons_of_mem _ hq)
    have hp := (h p List.mem_cons_self).2
    show 0 ≤ (if p.f0 = i then p.f1 else 0) + tot i P ∧ (if p.f0 = i then p.f1 else 0) + tot i P ≤ _
    rw [List.length_cons]
    split <;> omega
structure pOk (l : List S51) (n : Nat) (rest : Int) (P : List S78) : Prop where
  r : ∀ p ∈ P, okP l.length p
  t : ∀ i : Nat, i < l.length → tot i P = if i < n then (l.getD i z51).f1 else if i = n then (l.getD i z51).f1 - rest else 0
  c : P.length + rest ≤ 64 * (n + 1)
theorem pOk_put {l : List S51} {n : Nat} {rest q : Int} {P : List S78} {p : S78} (h : pOk l n rest P) (hn : n < l.length) (h0 : p.f0 = (n : Int)) (h1 : p.f1 = q) (hq : 1 ≤ q ∧ q ≤ 64) : pOk l n (rest - q) (P ++ [p]) := by
  refine ⟨fun y hy => ?_, fun i hi => ?_, by rw [List.length_append, List.length_singleton]; have := h.c; omega⟩
  · rcases List.mem_append.1 hy with hy | hy
    · exact h.r y hy
    · rw [List.mem_singleton] at hy
      subst hy
      exact ⟨by omega, by omega, by omega⟩
  · rw [tot_app1, h.t i hi, h0, h1]
    by_cases c : i < n
    · rw [if_pos c, if_pos c, if_neg (by omega)]; omega
    · rw [if_neg c, if_neg c]
      by_cases e : i = n
      · rw [if_pos e, if_pos e, if_pos (by omega)]; omega
      · rw [if_neg e, if_neg e, if_neg (by omega)]; omega
theorem split_l1 (a b : List Int) (s : ByteArray) (x : Int) (l : List S51) (ha : 1 ≤ a.length ∧ a.length ≤ 8) (ha2 : ∀ j, j < a.length → 1 ≤ a.getD j 0 ∧ a.getD j 0 ≤ 16) (hx : 1 ≤ x ∧ x ≤ 8) (n : Nat) (hn : n < l.length) (hl : l.length ≤ 48) (N : Nat) : ∀ (rest : Int) (P : List S78) (sec left : Int) (later : Bool), 0 ≤ rest → rest ≤ N → rest ≤ 64 → -1 ≤ sec → sec < a.length → 0 ≤ left → left ≤ 128 → pOk l n rest P →
    ∃ (P' : List S78) (sec' left' : Int), -1 ≤ sec' ∧ sec' < a.length ∧ 0 ≤ left' ∧ left' ≤ 128 ∧ pOk l n 0 P' ∧ ∀ R, Ev (fun k => impl_split.l0 k x P' sec' left' l (l.length : Int) ((n + 1 : Nat) : Int) s a b) R → Ev (fun k => impl_split.l1 k x P sec left (n : Int) later rest l (l.length : Int) (n : Int) s a b) R := by
  have w1 : wrap64 ((n : Int) + 1) = ((n + 1 : Nat) : Int) := by rw [wid (by omega)]; rfl
  induction N with
  | zero =>
    intro rest P sec left later h0 h1 h2 h3 h4 h5 h6 h7
    have : rest = 0 := by omega
    subst this
    refine ⟨P, sec, left, h3, h4, h5, h6, h7, fun R hR => Ev.shift ?_⟩
    simp only [impl_split.l1, w1]
    exact Ev.neg (by omega) hR
  | succ N ih =>
    intro rest P sec left later h0 h1 h2 h3 h4 h5 h6 h7
    by_cases hr : rest > 0
    · have hc := h7.c
      by_cases hlf : left = 0
      · subst hlf
        have ws : wrap64 (sec + 1) = sec + 1 := wid (by omega)
        have tm : Int.tmod (sec + 1) (a.length : Int) = (sec + 1) % (a.length : Int) := Int.tmod_eq_emod_of_nonneg (by omega)
        have t5 := Int.emod_nonneg (sec + 1) (show (a.length : Int) ≠ 0 by omega)
        have t6 := Int.emod_lt_of_pos (sec + 1) (show 0 < (a.length : Int) by omega)
        generalize hs1 : (sec + 1) % (a.length : Int) = sec1 at tm t5 t6
        obtain ⟨q, rfl⟩ := Int.eq_ofNat_of_zero_le t5
        have hq := ha2 q (by omega)
        have m1 : a.getD q 0 * x ≤ 16 * 8 := Int.mul_le_mul hq.2 hx.2 (by omega) (by omega)
        have m2 : 1 * 1 ≤ a.getD q 0 * x := Int.mul_le_mul hq.1 hx.1 (by omega) (by omega)
        have wl : wrap64 (a.getD q 0 * x) = a.getD q 0 * x := wid (by omega)
        generalize hlfe : a.getD q 0 * x = lf at *
        have hmn : mn rest lf = min rest lf := mn_eq _ _
        have hmb : 1 ≤ min rest lf ∧ min rest lf ≤ rest ∧ min rest lf ≤ lf := by omega
        generalize min rest lf = mm at *
        obtain ⟨P', sec', left', q1, q2, q3, q4, q5, q6⟩ := ih (rest - mm) (P ++ [⟨(n : Int), mm, (q : Int), later⟩]) (q : Int) (lf - mm) true (by omega) (by omega) (by omega) (by omega) t6 (by omega) (by omega) (pOk_put h7 hn rfl rfl (by omega))
        refine ⟨P', sec', left', q1, q2, q3, q4, q5, fun R hR => Ev.shift ?_⟩
        have X := q6 R hR
        simp only [impl_split.l1, ws, tm, rd_nat, hlfe, wl, hmn, wid (show -9223372036854775808 ≤ lf - mm ∧ lf - mm ≤ 9223372036854775807 by omega), wid (show -9223372036854775808 ≤ rest - mm ∧ rest - mm ≤ 9223372036854775807 by omega)]
        exact Ev.pos hr (Ev.pos trivial (Ev.neg (by omega) (Ev.pos (Int.natCast_nonneg _) (Ev.pos t6 (Ev.pos (by omega) X)))))
      · have hmn : mn rest left = min rest left := mn_eq _ _
        have hmb : 1 ≤ min rest left ∧ min rest left ≤ rest ∧ min rest left ≤ left := by omega
        generalize min rest left = mm at *
        obtain ⟨P', sec', left', q1, q2, q3, q4, q5, q6⟩ := ih (rest - mm) (P ++ [⟨(n : Int), mm, -1, later⟩]) sec (left - mm) true (by omega) (by omega) (by omega) h3 h4 (by omega) (by omega) (pOk_put h7 hn rfl rfl (by omega))
        refine ⟨P', sec', left', q1, q2, q3, q4, q5, fun R hR => Ev.shift ?_⟩
        have X := q6 R hR
        simp only [impl_split.l1, hmn, wid (show -9223372036854775808 ≤ left - mm ∧ left - mm ≤ 9223372036854775807 by omega), wid (show -9223372036854775808 ≤ rest - mm ∧ rest - mm ≤ 9223372036854775807 by omega)]
        exact Ev.pos hr (Ev.neg hlf (Ev.pos (by omega) X))
    · have : rest = 0 := by omega
      subst this
      refine ⟨P, sec, left, h3, h4, h5, h6, h7, fun R hR => Ev.shift ?_⟩
      simp only [impl_split.l1, w1]
      exact Ev.neg (by omega) hR
theorem split_l0 (a b : List Int) (s : ByteArray) (x : Int) (l : List S51) (ha : 1 ≤ a.length ∧ a.length ≤ 8) (ha2 : ∀ j, j < a.length → 1 ≤ a.getD j 0 ∧ a.getD j 0 ≤ 16) (hx : 1 ≤ x ∧ x ≤ 8) (hl : l.length ≤ 48) (hv : ∀ y ∈ l, okN y) (d : Nat) : ∀ (n : Nat) (P : List S78) (sec left : Int), n + d = l.length → -1 ≤ sec → sec < a.length → 0 ≤ left → left ≤ 128 → (∀ p ∈ P, okP l.length p) → (∀ i : Nat, i < l.length → tot i P = if i < n then (l.getD i z51).f1 else 0) → P.length ≤ 64 * n →
    ∃ P' : List S78, (∀ p ∈ P', okP l.length p) ∧ (∀ i : Nat, i < l.length → tot i P' = (l.getD i z51).f1) ∧ P'.length ≤ 3072 ∧ Ev (fun k => impl_split.l0 k x P sec left l (l.length : Int) (n : Int) s a b) P' := by
  induction d with
  | zero =>
    intro n P sec left h1 h2 h3 h4 h5 h6 h7 h8
    refine ⟨P, h6, fun i hi => by rw [h7 i hi, if_pos (by omega)], by omega, Ev.shift ?_⟩
    simp only [impl_split.l0]
    exact Ev.neg (by omega) (Ev.now _)
  | succ d ih =>
    intro n P sec left h1 h2 h3 h4 h5 h6 h7 h8
    have hn : n < l.length := by omega
    have hg : l.getD n z51 = l[n] := by rw [List.getD_eq_getElem?_getD, List.getElem?_eq_getElem hn]; rfl
    have hy := (hv _ (List.getElem_mem hn)).2
    rw [← hg] at hy
    have hp : pOk l n (l.getD n z51).f1 P := ⟨h6, fun i hi => by
      rw [h7 i hi]
      by_cases c : i < n
      · rw [if_pos c, if_pos c]
      · rw [if_neg c, if_neg c]
        by_cases e : i = n
        · subst e; rw [if_pos rfl]; omega
        · rw [if_neg e], by omega⟩
    obtain ⟨P1, sec1, left1, q1, q2, q3, q4, q5, q6⟩ := split_l1 a b s x l ha ha2 hx n hn hl 64 (l.getD n z51).f1 P sec left false (by omega) (by omega) (by omega) h2 h3 h4 h5 hp
    have hc := q5.c
    obtain ⟨P', r1, r2, r3, r4⟩ := ih (n + 1) P1 sec1 left1 (by omega) q1 q2 q3 q4 q5.r (fun i hi => by
      rw [q5.t i hi]
      by_cases c : i < n
      · rw [if_pos c, if_pos (by omega)]
      · rw [if_neg c]
        by_cases e : i = n
        · rw [if_pos e, if_pos (by omega)]; omega
        · rw [if_neg e, if_neg (by omega)]) (by omega)
    refine ⟨P', r1, r2, r3, Ev.shift ?_⟩
    simp only [impl_split.l0, rdNo]
    exact Ev.pos (by omega) (Ev.pos (by omega) (Ev.pos (by omega) (q6 _ r4)))
theorem rdPi (l : List S78) (i : Nat) (hi : i < l.length) : rd_T78 l (i : Int) = l[i] := by
  unfold rd_T78
  rw [Int.toNat_natCast, List.getD_eq_getElem?_getD, List.getElem?_eq_getElem hi]; rfl
theorem parts_l0 (P : List S78) (hP : P.length ≤ 4000) (d : Nat) : ∀ i : Nat, i + d = P.length → Ev (fun k => impl_SplitNotes.l0 k ((P.take i).map pr) P (P.length : Int) (i : Int)) (P.map pr, 0) := by
  induction d with
  | zero =>
    intro i h
    refine Ev.shift ?_
    simp only [impl_SplitNotes.l0]
    rw [List.take_of_length_le (by omega)]
    exact Ev.neg (by omega) (Ev.now _)
  | succ d ih =>
    intro i h
    have hi : i < P.length := by omega
    have w1 : wrap64 ((i : Int) + 1) = ((i + 1 : Nat) : Int) := by rw [wid (by omega)]; rfl
    have X := ih (i + 1) (by omega)
    rw [List.take_add_one, List.getElem?_eq_getElem hi, List.map_append] at X
    refine Ev.shift ?_
    simp only [impl_SplitNotes.l0, w1, rdPi P i hi]
    exact Ev.pos (by omega) (Ev.pos (by omega) (Ev.pos (by omega) (Ev.pos (by rw [List.length_map, List.length_take]; omega) X)))
theorem iSplit (l : List S51) (s : ByteArray) (a b : List Int) (x : Int) (hm : melB l = true) (ht : talaB s a b = true) (hx : 1 ≤ x ∧ x ≤ 8) : Ev (fun k => impl_SplitNotes.f k l s a b x) ([], 5) ∨ ∃ P : List S78, P.length ≤ 128 ∧ (∀ p ∈ P, okP l.length p) ∧ (∀ i : Nat, i < l.length → tot i P = (l.getD i z51).f1) ∧ Ev (fun k => impl_SplitNotes.f k l s a b x) (P.map pr, 0) := by
  obtain ⟨h48, hv⟩ := melB_ok hm
  obtain ⟨ha, ha2⟩ := talaB_len ht
  obtain ⟨P, r1, r2, r3, r4⟩ := split_l0 a b s x l ha ha2 hx h48 hv l.length 0 [] (-1) 0 (by omega) (Int.le_refl _) (by omega) (Int.le_refl _) (by omega) (by simp) (fun i hi => by simp [tot]) (Nat.le_refl _)
  have hno := iNoB l s a b x hm ht hx
  have hsp : Ev (fun k => impl_split.f k l s a b x) P := by unfold impl_split.f; exact r4
  unfold impl_SplitNotes.f
  by_cases c : (P.length : Int) > 128
  · exact .inl (Ev.bind hno (Ev.pos rfl (Ev.bind hsp (Ev.pos c (Ev.now _)))))
  · exact .inr ⟨P, by omega, r1, r2, Ev.bind hno (Ev.pos rfl (Ev.bind hsp (Ev.neg c (parts_l0 P (by omega) P.length 0 (by omega)))))⟩
theorem hasB_l0 (L : List Int) (n : Int) (hl : L.length ≤ 1000000) (d : Nat) : ∀ i : Nat, i + d = L.length → Ev (fun k => laws_r8Has.l0 k L n i) (decide (n ∈ L.drop i)) := by
  induction d with
  | zero =>
    intro i h
    refine Ev.shift ?_
    simp only [laws_r8Has.l0]
    rw [List.drop_of_length_le (by omega)]
    exact Ev.neg (by omega) (Ev.some (by simp))
  | succ d ih =>
    intro i h
    have hi : i < L.length := by omega
    have w1 : wrap64 ((i : Int) + 1) = ((i + 1 : Nat) : Int) := by rw [wid (by omega)]; rfl
    refine Ev.shift ?_
    simp only [laws_r8Has.l0, w1, rd_get L i hi]
    rw [List.drop_eq_getElem_cons hi]
    refine Ev.pos (by omega) (Ev.pos (by omega) ?_)
    by_cases c : L[i] = n
    · rw [decide_eq_true (by rw [c]; exact List.mem_cons_self)]
      exact Ev.pos c (Ev.now _)
    · have e : decide (n ∈ L[i] :: L.drop (i + 1)) = decide (n ∈ L.drop (i + 1)) := by
        rw [decide_eq_decide, List.mem_cons]
        exact ⟨fun h => h.elim (fun h => absurd h.symm c) id, .inr⟩
      rw [e]
      exact Ev.neg c (ih (i + 1) (by omega))
theorem hasB (L : List Int) (n : Int) (hl : L.length ≤ 1000000) : Ev (fun k => laws_r8Has.f k L n) (decide (n ∈ L)) := by
  unfold laws_r8Has.f
  exact hasB_l0 L n hl L.length 0 (by omega)
theorem sameB_l0 (l : List S51) (hl : l.length ≤ 1000) (d : Nat) : ∀ i : Nat, i + d = l.length → Ev (fun k => spec_l09Same.l0 k l l i) true := by
  induction d with
  | zero =>
    intro i h
    refine Ev.shift ?_
    simp only [spec_l09Same.l0]
    exact Ev.neg (by omega) (Ev.now _)
  | succ d ih =>
    intro i h
    have w1 : wrap64 ((i : Int) + 1) = ((i + 1 : Nat) : Int) := by rw [wid (by omega)]; rfl
    refine Ev.shift ?_
    simp only [spec_l09Same.l0, w1]
    exact Ev.pos (by omega) (Ev.pos (by omega) (Ev.pos (by omega) (Ev.neg (by simp) (ih (i + 1) (by omega)))))
theorem sameB (l : List S51) (hl : l.length ≤ 1000) : Ev (fun k => spec_SameMelody.f k l l) true := by
  unfold spec_SameMelody.f spec_l09Same.f
  exact Ev.bind (Ev.pos rfl (sameB_l0 l hl l.length 0 (by omega))) (Ev.now _)
theorem durB (l : List S51) (hm : melB l = true) : Ev (fun k => spec_DurationOf.f k l) (dN l, 0) := by
  obtain ⟨h48, hv⟩ := melB_ok hm
  obtain ⟨e1, _, _⟩ := wsumN_dN l 0 (Int.le_refl _) hv (by omega)
  rw [Int.zero_add] at e1
  have h1 := sMel l (by omega)
  rw [hm] at h1
  have h2 := sDur l (by omega)
  rw [e1] at h2
  unfold spec_DurationOf.f
  exact Ev.bind h1 (Ev.pos rfl (Ev.bind h2 (Ev.now _)))
theorem beatB (s : ByteArray) (a b : List Int) (ht : talaB s a b = true) : Ev (fun k => spec_BeatCount.f k s a b) (wsum 0 a, 0) := by
  have hl := (talaB_len ht).1
  have h1 := sTala s a b (by omega)
  rw [ht] at h1
  unfold spec_BeatCount.f spec_l17Beats.f
  exact Ev.bind h1 (Ev.pos rfl (Ev.bind (Ev.bind (sWsum a (by omega)) (Ev.now _)) (Ev.now _)))
theorem atB (l : List Int) (hb : bytesB l) : ∃ t, laws_r8At.f l 0 4 = some t ∧ 0 ≤ t ∧ t ≤ 3 := by
  unfold laws_r8At.f
  rw [if_neg (by omega)]
  by_cases c : (0 : Int) ≥ (l.length : Int)
  · rw [if_pos c]; exact ⟨0, rfl, by omega, by omega⟩
  · have q := hb 0 (by omega)
    have e : rd l 0 = l.getD 0 0 := rfl
    rw [if_neg c, if_pos (by omega), if_pos (by omega), if_neg (by omega), e, wid (x := l.getD 0 0) (by omega)]
    refine ⟨_, rfl, ?_⟩
    rw [Int.tmod_eq_emod_of_nonneg q.1]
    omega
theorem melDraw_l0 (l : List Int) (hb : bytesB l) (d : Nat) : ∀ (v : Int) (x : List S51) (p a s : Int), v = d → x.length + d ≤ 9 → (∀ y ∈ x, okN y) → -12 ≤ p ∧ p ≤ 23 → 0 ≤ a → a ≤ 1000000 - 8 * (d : Int) → ∃ (r : List S51) (a' s' : Int), r.length ≤ 9 ∧ (∀ y ∈ r, okN y) ∧ Ev (fun k => spec_l09Draw.l0 k x p v l a s) (r, a', s') := by
  induction d with
  | zero =>
    intro v x p a s hv h1 h2 h3 h4 h5
    refine ⟨x, a, s, by omega, h2, Ev.shift ?_⟩
    simp only [spec_l09Draw.l0]
    exact Ev.neg (by omega) (Ev.now _)
  | succ d ih =>
    intro v x p a s hv h1 h2 h3 h4 h5
    obtain ⟨q, a1, s1, e1, q0, q1, b1, b2⟩ := pick_ok l hb a s 9 h4 (by omega) (by omega)
    obtain ⟨y, a2, s2, e2, hy, b3, b4⟩ := among_ok l hb a1 s1 [1, 1, 2, 2, 3, 4, 6] (by omega) (by omega) (by simp) (by simp)
    have hq : q < 9 := by rcases q1 with h | h <;> omega
    have hy6 : 1 ≤ y ∧ y ≤ 6 := by simp at hy; omega
    have w1 : wrap64 (wrap64 (p + q) - 4) = p + q - 4 := by rw [wid (x := p + q) (by omega), wid (by omega)]
    obtain ⟨t, ht, ht2⟩ : ∃ t, spec_l00Min.f 23 (p + q - 4) = some t ∧ t ≤ 23 := by
      unfold spec_l00Min.f
      split
      · exact ⟨_, rfl, by omega⟩
      · exact ⟨_, rfl, by omega⟩
    obtain ⟨z, hz, hz2⟩ : ∃ z, spec_l00Max.f (-12) t = some z ∧ -12 ≤ z ∧ z ≤ 23 := by
      unfold spec_l00Max.f
      split
      · exact ⟨_, rfl, by omega⟩
      · exact ⟨_, rfl, by omega⟩
    obtain ⟨r, a', s', r1, r2, r3⟩ := ih (v - 1) (x ++ [(⟨z, y⟩ : S51)]) z a2 s2 (by omega) (by rw [List.length_append, List.length_singleton]; omega) (fun w hw => by
      rcases List.mem_append.1 hw with hw | hw
      · exact h2 w hw
      · rw [List.mem_singleton] at hw
        subst hw
        exact ⟨hz2, by show 1 ≤ y; omega, by show y ≤ 64; omega⟩) hz2 (by omega) (by omega)
    refine ⟨r, a', s', r1, r2, Ev.shift ?_⟩
    simp only [spec_l09Draw.l0, e1, e2, Option.bind_some, w1, ht, hz, wid (show -9223372036854775808 ≤ v - 1 ∧ v - 1 ≤ 9223372036854775807 by omega)]
    exact Ev.pos (by omega) (Ev.pos (by omega) r3)
theorem rMel (l : List Int) (hb : bytesB l) : ∃ r : List S51, r.length ≤ 9 ∧ melB r = true ∧ Ev (fun k => spec_R8Melody.f k l) r := by
  obtain ⟨p, a1, s1, e1, p0, p1, b1, b2⟩ := pick_ok l hb 0 0 12 (Int.le_refl _) (by omega) (by omega)
  obtain ⟨v, a2, s2, e2, v0, v1, b3, b4⟩ := pick_ok l hb a1 s1 10 (by omega) (by omega) (by omega)
  have hp : p < 12 := by rcases p1 with h | h <;> omega
  have hv : v < 10 := by rcases v1 with h | h <;> omega
  obtain ⟨r, a', s', r1, r2, r3⟩ := melDraw_l0 l hb v.toNat v [] p a2 s2 (by omega) (by simp; omega) (by simp) (by omega) (by omega) (by omega)
  refine ⟨r, r1, melB_mk (by omega) r2, ?_⟩
  unfold spec_R8Melody.f spec_l00From.f spec_l09Draw.f
  simp only [Option.bind_some, e1, e2]
  exact Ev.bind r3 (Ev.now _)
theorem law_l2 (l : List S51) (hl : l.length ≤ 48) (X : List Int) (hX : X.length = l.length) (h : ∀ i : Nat, i < l.length → X.getD i 0 = (l.getD i z51).f1) (d : Nat) : ∀ i : Nat, i + d = l.length → Ev (fun k => laws_FnBars.l2 k l X i) true := by
  induction d with
  | zero =>
    intro i h1
    refine Ev.shift ?_
    simp only [laws_FnBars.l2]
    exact Ev.neg (by omega) (Ev.now _)
  | succ d ih =>
    intro i h1
    have w1 : wrap64 ((i : Int) + 1) = ((i + 1 : Nat) : Int) := by rw [wid (by omega)]; rfl
    refine Ev.shift ?_
    simp only [laws_FnBars.l2, w1, rd_nat, rdNo]
    exact Ev.pos (by omega) (Ev.pos (by omega) (Ev.pos (by omega) (Ev.pos (h i (by omega)) (ih (i + 1) (by omega)))))
theorem law_l1 (l : List S51) (hl : l.length ≤ 48) (P : List S78) (hP : P.length ≤ 128) (hr : ∀ p ∈ P, okP l.length p) (ht : ∀ i : Nat, i < l.length → tot i P = (l.getD i z51).f1) (d : Nat) : ∀ (j : Nat) (X : List Int), j + d = P.length → X.length = l.length → (∀ i : Nat, i < l.length → X.getD i 0 = tot i (P.take j)) → Ev (fun k => laws_FnBars.l1 k l (P.map pr) X j) true := by
  induction d with
  | zero =>
    intro j X h1 h2 h3
    refine Ev.shift ?_
    simp only [laws_FnBars.l1]
    refine Ev.neg (by rw [List.length_map]; omega) (law_l2 l hl X h2 (fun i hi => ?_) l.length 0 (by omega))
    rw [h3 i hi, List.take_of_length_le (by omega), ht i hi]
  | succ d ih =>
    intro j X h1 h2 h3
    have hj : j < P.length := by omega
    have hp := hr _ (List.getElem_mem hj)
    have w1 : wrap64 ((j : Int) + 1) = ((j + 1 : Nat) : Int) := by rw [wid (by omega)]; rfl
    have hrow : rd_L3 (P.map pr) (j : Int) = pr P[j] := by
      unfold rd_L3
      rw [Int.toNat_natCast, List.getD_eq_getElem?_getD, List.getElem?_map, List.getElem?_eq_getElem hj]; rfl
    have hl2 : (pr P[j]).length = 2 := rfl
    have e0 : rd (pr P[j]) 0 = (P[j]).f0 := rfl
    have e1 : rd (pr P[j]) 1 = (P[j]).f1 := rfl
    have hbd := tot_bd l.length (P[j]).f0 (P.take j) fun q hq => hr q (List.mem_of_mem_take hq)
    have hlt : (P.take j).length ≤ 128 := by rw [List.length_take]; omega
    unfold okP at hp
    obtain ⟨n, hn⟩ := Int.eq_ofNat_of_zero_le hp.1.1
    rw [hn] at hp hbd
    have hx := h3 n (by omega)
    have e2 : rd X (n : Int) = X.getD n 0 := rd_nat X n
    have X' := ih (j + 1) (X.set n (X.getD n 0 + (P[j]).f1)) (by omega) (by rw [List.length_set]; exact h2) (fun i hi => by
      rw [List.take_add_one, List.getElem?_eq_getElem hj]
      show _ = tot i (P.take j ++ [P[j]])
      rw [tot_app1, hn, ← h3 i hi]
      by_cases c : i = n
      · subst c
        rw [if_pos rfl, List.getD_eq_getElem?_getD, List.getElem?_set_self (by omega), Option.getD_some]
      · rw [if_neg (by omega), List.getD_eq_getElem?_getD, List.getElem?_set_ne (fun e => c e.symm), ← List.getD_eq_getElem?_getD, Int.add_zero])
    refine Ev.shift ?_
    simp only [laws_FnBars.l1, w1, hrow, hl2, e0, e1, hn, e2, Int.toNat_natCast, wid (show -9223372036854775808 ≤ X.getD n 0 + (P[j]).f1 ∧ X.getD n 0 + (P[j]).f1 ≤ 9223372036854775807 by omega)]
    exact Ev.pos (by rw [List.length_map]; omega) (Ev.pos (by omega) (Ev.pos (by decide) (Ev.pos (by decide) (Ev.neg (by omega) (Ev.neg (by omega) (Ev.pos (by decide) (Ev.neg (by omega) (Ev.pos (by omega) (Ev.pos (by omega) X')))))))))
theorem law_l0 (l : List S51) (s : ByteArray) (a b : List Int) (x u : Int) (hl : l.length ≤ 48) (hv : ∀ y ∈ l, okN y) (hu : 1 ≤ u) (fin : Ev (fun k => laws_FnBars.l0 k l x u (sam u 0 0 l) (dN l) (l.length : Int) s a b) true) (d : Nat) : ∀ i : Nat, i + d = l.length → Ev (fun k => laws_FnBars.l0 k l x u (sam u 0 0 l) (dN (l.take i)) i s a b) true := by
  induction d with
  | zero =>
    intro i h1
    have : i = l.length := by omega
    subst this
    rw [List.take_length]
    exact fin
  | succ d ih =>
    intro i h1
    have hi : i < l.length := by omega
    have hg : l.getD i z51 = l[i] := by rw [List.getD_eq_getElem?_getD, List.getElem?_eq_getElem hi]; rfl
    have w1 : wrap64 ((i : Int) + 1) = ((i + 1 : Nat) : Int) := by rw [wid (by omega)]; rfl
    have hb := wsumN_dN (l.take i) 0 (Int.le_refl _) (fun y hy => hv y (List.mem_of_mem_take hy)) (by rw [List.length_take]; omega)
    have hlt : (l.take i).length ≤ 48 := by rw [List.length_take]; omega
    have hy := (hv _ (List.getElem_mem hi)).2
    have hd : dN (l.take (i + 1)) = dN (l.take i) + (l[i]).f1 := by
      rw [List.take_add_one, List.getElem?_eq_getElem hi, dN_app]
      show _ + ((l[i]).f1 + 0) = _
      omega
    have X := ih (i + 1) (by omega)
    rw [hd] at X
    have tm : Int.tmod (dN (l.take i)) u = dN (l.take i) % u := Int.tmod_eq_emod_of_nonneg hb.2.1
    have hmem : decide ((i : Int) ∈ sam u 0 0 l) = decide (dN (l.take i) % u = 0) := by
      rw [decide_eq_decide, sam_mem]
      constructor
      · rintro ⟨q, h1, h2, h3⟩
        have : q = i := by omega
        subst this
        rwa [Int.zero_add] at h3
      · intro h
        exact ⟨i, hi, by simp, by rwa [Int.zero_add]⟩
    have hsl := sam_len u l 0 0
    have he : ((decide (dN (l.take i) % u = 0)) != (dN (l.take i) % u == 0)) = false := by
      by_cases c : dN (l.take i) % u = 0
      · rw [decide_eq_true c, beq_iff_eq.2 c]; rfl
      · rw [decide_eq_false c, beq_eq_false_iff_ne.2 c]; rfl
    refine Ev.shift ?_
    simp only [laws_FnBars.l0, w1, rdNo, hg, tm, wid (show -9223372036854775808 ≤ dN (l.take i) + (l[i]).f1 ∧ dN (l.take i) + (l[i]).f1 ≤ 9223372036854775807 by omega)]
    refine Ev.pos (by omega) (Ev.bind (hasB (sam u 0 0 l) i (by omega)) (Ev.neg (by omega) ?_))
    rw [hmem, he]
    exact Ev.neg (by simp) (Ev.pos (by omega) X)
theorem FnBars : laws_FnBars.Pure := by
  intro x0 x1 _ _ hw0 _ _ hw1
  have hb : ∀ l : List Int, (∀ x ∈ l, (Lit.int .u8 x).wf = true) → bytesB l := fun l hl j hj => by
    have h := hl _ (List.getElem_mem hj)
    rw [List.getD_eq_getElem?_getD, List.getElem?_eq_getElem hj, Option.getD_some]
    simp [Lit.wf, IntKind.min, IntKind.max, IntKind.signed, IntKind.bits] at h
    omega
  refine Ev.rounds (g := fun k => laws_FnBars.f k x0 x1) ?_
  obtain ⟨l, h9, hm, ev1⟩ := rMel x0 (hb x0 hw0)
  obtain ⟨s, a, b, ht, ev2⟩ := rTala x1 (hb x1 hw1)
  obtain ⟨q, hq, q0, q3⟩ := atB x1 (hb x1 hw1)
  obtain ⟨h48, hv⟩ := melB_ok hm
  have hx : 1 ≤ 1 + q ∧ 1 + q ≤ 8 := by omega
  obtain ⟨x, ex⟩ : ∃ x, 1 + q = x := ⟨_, rfl⟩
  have wx : wrap64 (1 + q) = x := by rw [wid (by omega), ex]
  rw [ex] at hx
  obtain ⟨w, u1, u2⟩ := uB ht hx
  obtain ⟨e1, e2, e3⟩ := wsumN_dN l 0 (Int.le_refl _) hv (by omega)
  obtain ⟨r, r1, r2, r3, evP⟩ := iPad l s a b x hm (by omega) ht hx
  have evC := iCyc l s a b x hm ht hx
  have evD := durB l hm
  have evS := iSam l s a b x hm ht hx
  have evB := beatB s a b ht
  have hfull : melB (l ++ r) = true := melB_mk (by rw [List.length_append]; omega) (fun y hy => (List.mem_append.1 hy).elim (hv y) (r1 y))
  have evF := durB (l ++ r) hfull
  rw [dN_app, r2] at evF
  have evSp := iSplit l s a b x hm ht hx
  have hfin : Ev (fun k => laws_FnBars.l0 k l x (wsum 0 a * x) (sam (wsum 0 a * x) 0 0 l) (dN l) (l.length : Int) s a b) true := by
    refine Ev.shift ?_
    simp only [laws_FnBars.l0]
    refine Ev.neg (by omega) ?_
    rcases evSp with evSp | ⟨P, p1, p2, p3, evSp⟩
    · exact Ev.bind evSp (Ev.neg (by decide) (Ev.now _))
    · refine Ev.bind evSp (Ev.pos rfl (Ev.pos (by omega) (Ev.pos (by omega) ?_)))
      rw [Int.toNat_natCast]
      exact law_l1 l h48 P p1 p2 p3 P.length 0 (List.replicate l.length 0) (by omega) List.length_replicate (fun i hi => by
        rw [List.getD_eq_getElem?_getD, List.getElem?_replicate, if_pos hi]; simp [tot])
  have hL := law_l0 l s a b x (wsum 0 a * x) h48 hv u1 hfin l.length 0 (by omega)
  rw [List.take_zero] at hL
  clear evSp hfin
  generalize hu : wsum 0 a * x = u at *
  have wu : wrap64 (wsum 0 a * x) = u := by rw [hu]; exact w
  have t2 := Int.emod_nonneg (dN l) (show u ≠ 0 by omega)
  have t3 := Int.emod_lt_of_pos (dN l) (show 0 < u by omega)
  have t5 := Int.emod_nonneg (u - dN l % u) (show u ≠ 0 by omega)
  have t6 := Int.emod_lt_of_pos (u - dN l % u) (show 0 < u by omega)
  have hdm : dN l / u * u + dN l % u = dN l := by rw [Int.mul_comm]; exact Int.mul_ediv_add_emod _ _
  have hq1 := Int.ediv_nonneg e2 (show 0 ≤ u by omega)
  have hwm : wrap64 (dN l / u * u) = dN l / u * u := wid (by omega)
  have hz : (dN l + (u - dN l % u) % u) % u = 0 := by
    by_cases c : dN l % u = 0
    · rw [c, Int.sub_zero, Int.emod_self, Int.add_zero, c]
    · have h1 : (u - dN l % u) % u = u - dN l % u := Int.emod_eq_of_lt (by omega) (by omega)
      rw [h1, show dN l + (u - dN l % u) = u * (dN l / u) + u from by rw [Int.mul_comm]; omega, Int.add_emod_right, Int.mul_emod_right]
  have ht0 : Int.tmod (dN l + (u - dN l % u) % u) u = 0 := by rw [Int.tmod_eq_emod_of_nonneg (by omega), hz]
  have hwd : wrap64 (dN l + (u - dN l % u) % u - dN l) = dN l + (u - dN l % u) % u - dN l := wid (by omega)
  have hws : wrap64 (dN l / u * u + dN l % u) = dN l := by rw [hdm]; exact wid (by omega)
  have htk : (l ++ r).take (l.length : Int).toNat = l := by rw [Int.toNat_natCast, List.take_left' rfl]
  have J1 : Ev (fun k => laws_FnBars.j1 k l x u (sam u 0 0 l) false s a b) true := by
    refine Ev.shift ?_
    simp only [laws_FnBars.j1]
    exact Ev.neg (by simp) hL
  have J0 : Ev (fun k => laws_FnBars.j0 k l x u (dN l) (l ++ r) (sam u 0 0 l) false s a b) true := by
    refine Ev.shift ?_
    simp only [laws_FnBars.j0, htk]
    exact Ev.neg (by simp) (Ev.bind evF (Ev.pos rfl (Ev.neg (Int.not_lt.2 (show dN l ≤ dN l + (u - dN l % u) % u by omega)) (Ev.neg (show ¬ wrap64 (dN l + (u - dN l % u) % u - dN l) ≥ u by rw [hwd]; omega) (Ev.neg (by omega) (Ev.pos ht0 (Ev.neg (by rw [List.length_append]; omega) (Ev.pos (by omega) (Ev.pos (by rw [List.length_append]; omega) (Ev.bind (sameB l (by omega)) J1))))))))))
  obtain ⟨g, eg⟩ : ∃ g, laws_r8Long.f x0 x1 = some g := by
    unfold laws_r8Long.f
    by_cases c : (x0.length : Int) > 1048576
    · exact ⟨_, if_pos c⟩
    · exact ⟨_, if_neg c⟩
  unfold laws_FnBars.f
  simp only [eg, Option.bind_some]
  cases g with
  | true => exact Ev.pos rfl (Ev.now _)
  | false =>
    refine Ev.neg (by simp) (Ev.bind ev1 (Ev.bind ev2 ?_))
    simp only [hq, Option.bind_some, wx]
    refine Ev.bind evB ?_
    simp only [wu]
    refine Ev.bind evC (Ev.bind evD (Ev.bind evP (Ev.bind evS ?_)))
    simp only [hwm, hws]
    exact Ev.pos trivial (Ev.neg (by omega) (Ev.neg (by omega) (Ev.pos trivial (Ev.pos trivial J0))))

end Go.Proofs.Ytbpliblhpiompaa.Pure
