/- The pure statement of the law FnExactAccentsOf: what the Go functions compute, told by plain Lean functions, is what the law asks, for all arguments. No condition beyond the printed ones. -/
import Derived.Test.YtmipmpgpolbefaaPFnExactAccentsOfx3
import Derived.Test.YtmipmpgpolbefaaXW
namespace Go.Proofs.Ytmipmpgpolbefaa.Pure
open Go.RowKit Go.Proofs.Ytmipmpgpolbefaa.PFnExactAccentsOf Go.Proofs.YtmipmpgpolbefaaW.PrintWords Go.Proofs.YtmipmpgpolbefaaW.PrintLast Go.Proofs.YtmipmpgpolbefaaW.PrintMore Go.Proofs.YtmipmpgpolbefaaXW
set_option linter.unusedVariables false
set_option linter.unusedSimpArgs false
theorem toI_l0 (l : List Int) (hl : l.length ≤ 35184372088832) (d : Nat) : ∀ (i : Nat) (acc : List Int), i + d = l.length → acc.length = l.length → acc.take i = l.take i → Ev (fun k => laws_toInt64S.l0 k l acc i) l := by
  induction d with
  | zero =>
    intro i acc h1 h2 h3
    refine Ev.shift ?_
    simp only [laws_toInt64S.l0]
    refine Ev.neg (by omega) ?_
    refine Ev.some ?_
    rw [List.take_of_length_le (by omega), List.take_of_length_le (by omega)] at h3
    rw [h3]
  | succ d ih =>
    intro i acc h1 h2 h3
    refine Ev.shift ?_
    simp only [laws_toInt64S.l0]
    refine Ev.pos (by omega) (Ev.pos (by omega) (Ev.pos (by omega) ?_))
    rw [wid (by omega), rd_get l i (by omega), Int.toNat_natCast]
    refine ih (i + 1) (acc.set i l[i]) (by omega) (by rw [List.length_set, h2]) ?_
    rw [List.take_succ_eq_append_getElem (by rw [List.length_set]; omega), List.take_succ_eq_append_getElem (by omega), List.take_set_of_le (by omega), List.getElem_set_self, h3]
theorem toI (l : List Int) (hl : l.length ≤ 35184372088832) : Ev (fun k => laws_toInt64S.f k l) l := by
  unfold laws_toInt64S.f
  refine Ev.pos (by omega) (Ev.pos (by omega) ?_)
  rw [Int.toNat_natCast]
  exact toI_l0 l hl l.length 0 _ (by omega) (by simp) (by simp)
theorem eqI_l0 (l : List Int) (hl : l.length ≤ 35184372088832) (d : Nat) : ∀ (i : Nat), i + d = l.length → Ev (fun k => laws_eqInt64S.l0 k l l i) true := by
  induction d with
  | zero =>
    intro i h1
    refine Ev.shift ?_
    simp only [laws_eqInt64S.l0]
    exact Ev.neg (by omega) (Ev.now _)
  | succ d ih =>
    intro i h1
    refine Ev.shift ?_
    simp only [laws_eqInt64S.l0]
    refine Ev.pos (by omega) (Ev.pos (by omega) (Ev.pos (by omega) (Ev.pos (by trivial) ?_)))
    rw [wid (by omega)]
    exact ih (i + 1) (by omega)
theorem eqI (l : List Int) (hl : l.length ≤ 35184372088832) : Ev (fun k => laws_eqInt64S.f k l l) true := by
  unfold laws_eqInt64S.f
  exact Ev.pos rfl (eqI_l0 l hl l.length 0 (by omega))
/-- what marks leave: from m on, one by one -/
def marks (m : Int) : Nat → List Int
  | 0 => []
  | n + 1 => m :: marks (m + 1) n
theorem marks_length (n : Nat) : ∀ m, (marks m n).length = n := by
  induction n with
  | zero => intro m; rfl
  | succ n ih => intro m; simp [marks, ih]
theorem marks_get (n : Nat) : ∀ (m : Int) (i : Nat) (h : i < (marks m n).length), (marks m n)[i] = m + i := by
  induction n with
  | zero => intro m i h; simp [marks] at h
  | succ n ih =>
    intro m i h
    cases i with
    | zero => simp [marks]
    | succ i => simp only [marks, List.getElem_cons_succ]; rw [ih]; omega
theorem marks_snoc (n : Nat) : ∀ m, marks m (n + 1) = marks m n ++ [m + n] := by
  induction n with
  | zero => intro m; simp [marks]
  | succ n ih =>
    intro m
    rw [marks, ih, marks, List.cons_append]
    congr 3
    simp; omega
theorem markI_l0 (m0 : Int) (n : Nat) (h0 : 0 ≤ m0) (h1 : m0 + n ≤ 9000000000000000000) (d : Nat) : ∀ (i : Nat) (acc : List Int), i + d = n → acc.length = n → acc.take i = marks m0 i → Ev (fun k => laws_markInt64S.l0 k acc (m0 + i) i) (m0 + n, marks m0 n) := by
  induction d with
  | zero =>
    intro i acc h2 h3 h4
    refine Ev.shift ?_
    simp only [laws_markInt64S.l0]
    refine Ev.neg (by omega) (Ev.some ?_)
    rw [List.take_of_length_le (by omega)] at h4
    rw [h4, show i = n by omega]
  | succ d ih =>
    intro i acc h2 h3 h4
    refine Ev.shift ?_
    simp only [laws_markInt64S.l0]
    refine Ev.pos (by omega) (Ev.pos (by omega) ?_)
    rw [wid (x := m0 + i + 1) (by omega), wid (x := (i : Int) + 1) (by omega), Int.toNat_natCast, show m0 + (i : Int) + 1 = m0 + ((i + 1 : Nat) : Int) by omega]
    refine ih (i + 1) _ (by omega) (by rw [List.length_set, h3]) ?_
    rw [List.take_succ_eq_append_getElem (by rw [List.length_set]; omega), List.take_set_of_le (by omega), List.getElem_set_self, h4, marks_snoc]
theorem markI (l : List Int) (m : Int) (h0 : 0 ≤ m) (h1 : m + l.length ≤ 9000000000000000000) : Ev (fun k => laws_markInt64S.f k l m) (m + l.length, marks m l.length) := by
  unfold laws_markInt64S.f
  have := markI_l0 m l.length h0 h1 l.length 0 l (by omega) rfl (by simp [marks])
  simpa using this
theorem heldI_l0 (m0 : Int) (n : Nat) (h0 : 0 ≤ m0) (h1 : m0 + n ≤ 9000000000000000000) (d : Nat) : ∀ (i : Nat), i + d = n → Ev (fun k => laws_heldInt64S.l0 k (marks m0 n) (m0 + i) i) (m0 + n) := by
  induction d with
  | zero =>
    intro i h2
    refine Ev.shift ?_
    simp only [laws_heldInt64S.l0, marks_length]
    exact Ev.neg (by omega) (Ev.some (by rw [show i = n by omega]))
  | succ d ih =>
    intro i h2
    refine Ev.shift ?_
    simp only [laws_heldInt64S.l0, marks_length]
    refine Ev.pos (by omega) (Ev.pos (by omega) (Ev.pos (by rw [rd_get _ _ (by rw [marks_length]; omega), marks_get]) ?_))
    rw [wid (x := m0 + i + 1) (by omega), wid (x := (i : Int) + 1) (by omega), show m0 + (i : Int) + 1 = m0 + ((i + 1 : Nat) : Int) by omega]
    exact ih (i + 1) (by omega)
theorem heldI (n : Nat) (m : Int) (h0 : 0 ≤ m) (h1 : m + n ≤ 9000000000000000000) : Ev (fun k => laws_heldInt64S.f k (marks m n) m) (m + n) := by
  unfold laws_heldInt64S.f
  have := heldI_l0 m n h0 h1 n 0 (by omega)
  simpa using this
theorem in_eq (a b c : Int) : spec_l00In.f a b c = some (decide (b ≤ a ∧ a ≤ c)) := by
  unfold spec_l00In.f; split <;> simp_all; omega
theorem within_eq (a b c : Int) : impl_within.f a b c = some (decide (b ≤ a ∧ a ≤ c)) := by
  unfold impl_within.f; split <;> simp_all; omega
theorem allIn_eq (l : List Int) (a b : Int) : impl_allWithin.f l a b = some (l.all fun x => decide (a ≤ x ∧ x ≤ b)) := by
  unfold impl_allWithin.f
  rw [List.not_any_eq_all_not]
  congr 2
  funext x
  simp [allP]
theorem sLen1 (n : Int) : spec_l09Length.f n = some (decide (1 ≤ n ∧ n ≤ 64)) := by
  unfold spec_l09Length.f; rw [in_eq]; rfl
def lensB (l : List Int) : Bool := decide (l.length ≤ 48) && l.all fun x => decide (1 ≤ x ∧ x ≤ 64)
def lenQ (l : List Int) (j : Nat) : Bool := decide (1 ≤ l.getD j 0 ∧ l.getD j 0 ≤ 64)
theorem sLens_l0 (l : List Int) (hl : l.length ≤ 35184372088832) (d : Nat) : ∀ (i : Nat), i + d = l.length → Ev (fun k => spec_l21Lengths.l0 k l i) (decide (l.length ≤ 48) && allF (lenQ l) l.length i) := by
  induction d with
  | zero =>
    intro i h1
    refine Ev.shift ?_
    simp only [spec_l21Lengths.l0]
    exact Ev.neg (by omega) (Ev.some (by rw [allF_end _ (by omega), Bool.and_true]; congr 1; rw [decide_eq_decide]; omega))
  | succ d ih =>
    intro i h1
    refine Ev.shift ?_
    simp only [spec_l21Lengths.l0, sLen1, Option.bind_some]
    refine Ev.pos (by omega) (Ev.pos (by omega) ?_)
    rw [rd_nat]
    by_cases hb : 1 ≤ l.getD i 0 ∧ l.getD i 0 ≤ 64
    · refine Ev.pos (by simpa using hb) ?_
      rw [wid (by omega), allF_yes _ (by simp only [lenQ]; exact decide_eq_true hb)]
      exact ih (i + 1) (by omega)
    · refine Ev.neg (by simpa using hb) (Ev.some ?_)
      rw [allF_no _ (by omega) (by simp only [lenQ]; exact decide_eq_false hb), Bool.and_false]
theorem sLens (l : List Int) (hl : l.length ≤ 35184372088832) : Ev (fun k => spec_l21Lengths.f k l) (lensB l) := by
  unfold spec_l21Lengths.f
  refine Ev.same (sLens_l0 l hl l.length 0 (by omega)) ?_
  unfold lensB
  congr 1
  rw [Bool.eq_iff_iff, allF_iff, all_iff_get]
  exact ⟨fun h j hj => h j hj (Nat.zero_le _), fun h j hj _ => h j hj⟩
theorem lensB_len {l : List Int} (h : lensB l = true) : l.length ≤ 48 := by
  unfold lensB at h; simp only [Bool.and_eq_true, decide_eq_true_eq] at h; exact h.1
theorem lensB_get {l : List Int} (h : lensB l = true) (j : Nat) (hj : j < l.length) : 1 ≤ l.getD j 0 ∧ l.getD j 0 ≤ 64 := by
  unfold lensB at h; simp only [Bool.and_eq_true] at h
  have := (all_iff_get _ _).1 h.2 j hj
  exact of_decide_eq_true this
theorem iLens (l : List Int) : impl_lengthsOk.f l = some (lensB l) := by
  unfold impl_lengthsOk.f lensB
  rw [allIn_eq]
  by_cases h : l.length ≤ 48
  · rw [if_pos (by omega)]; simp [h]
  · rw [if_neg (by omega)]; simp [h]
/-- where the parts begin -/
def accs (s : Int) : List Int → List Int
  | [] => []
  | x :: l => s :: accs (s + x) l
theorem accs_length (l : List Int) : ∀ s, (accs s l).length = l.length := by
  induction l with
  | nil => intro s; rfl
  | cons x l ih => intro s; simp [accs, ih]
theorem acc_loops (l : List Int) (h48 : lensB l = true) (d : Nat) : ∀ (i : Nat) (acc : List Int) (s : Int), i + d = l.length → acc.length = i → 0 ≤ s → s ≤ 64 * i →
    Ev (fun k => spec_AccentsOf.l0 k l acc s i) (acc ++ accs s (l.drop i), 0) ∧ Ev (fun k => impl_AccentsOf.l0 k acc s l l.length i) (acc ++ accs s (l.drop i), 0) := by
  have hl := lensB_len h48
  induction d with
  | zero =>
    intro i acc s h1 h2 h3 h4
    have e : l.drop i = [] := List.drop_of_length_le (by omega)
    rw [e]
    constructor
    · refine Ev.shift ?_
      simp only [spec_AccentsOf.l0]
      exact Ev.neg (by omega) (Ev.some (by simp [accs]))
    · refine Ev.shift ?_
      simp only [impl_AccentsOf.l0]
      exact Ev.neg (by omega) (Ev.some (by simp [accs]))
  | succ d ih =>
    intro i acc s h1 h2 h3 h4
    have hx := lensB_get h48 i (by omega)
    have e : l.drop i = l.getD i 0 :: l.drop (i + 1) := by
      rw [List.drop_eq_getElem_cons (by omega), List.getD_eq_getElem?_getD, List.getElem?_eq_getElem (by omega), Option.getD_some]
    obtain ⟨x, y⟩ := ih (i + 1) (acc ++ [s]) (s + l.getD i 0) (by omega) (by simp [h2]) (by omega) (by omega)
    rw [e, accs]
    rw [List.append_assoc, List.singleton_append] at x y
    constructor
    · refine Ev.shift ?_
      simp only [spec_AccentsOf.l0]
      refine Ev.pos (by omega) (Ev.pos (by omega) (Ev.pos (by omega) ?_))
      rw [rd_nat, wid (x := s + _) (by omega), wid (x := (i : Int) + 1) (by omega)]
      exact x
    · refine Ev.shift ?_
      simp only [impl_AccentsOf.l0]
      refine Ev.pos (by omega) (Ev.pos (by omega) (Ev.pos (by omega) (Ev.pos (by omega) ?_)))
      rw [rd_nat, wid (x := s + _) (by omega), wid (x := (i : Int) + 1) (by omega)]
      exact y
theorem accents (l : List Int) (hl : l.length ≤ 35184372088832) : ∃ r c, r.length ≤ 48 ∧ Ev (fun k => spec_AccentsOf.f k l) (r, c) ∧ Ev (fun k => impl_AccentsOf.f k l) (r, c) := by
  unfold spec_AccentsOf.f impl_AccentsOf.f
  cases h : lensB l with
  | true =>
    obtain ⟨x, y⟩ := acc_loops l h l.length 0 [] 0 (by omega) rfl (by omega) (by omega)
    refine ⟨_, _, ?_, Ev.bind (sLens l hl) (by rw [h]; exact Ev.pos rfl x), ?_⟩
    · rw [List.nil_append, accs_length]; simpa using lensB_len h
    · rw [iLens, h]; exact y
  | false =>
    refine ⟨[], 7, by simp, Ev.bind (sLens l hl) (by rw [h]; exact Ev.neg (by decide) (Ev.now _)), ?_⟩
    rw [iLens, h]; exact Ev.now _
theorem FnExactAccentsOf : laws_FnExactAccentsOf.Pure := by
  intro l hm hs _
  refine Ev.rounds (g := fun k => laws_FnExactAccentsOf.f k l) ?_
  unfold laws_FnExactAccentsOf.f
  by_cases hl : (l.length : Int) > 1048576
  · exact Ev.pos hl (Ev.now _)
  refine Ev.neg hl ?_
  have hl' : l.length ≤ 35184372088832 := by omega
  obtain ⟨r, c, hr0, hS, hI⟩ := accents l hl'
  have hr : r.length ≤ 35184372088832 := by omega
  have hmk := markI r 1 (by omega) (by omega)
  have hhl := heldI r.length 1 (by omega) (by omega)
  have hmx := markI l 1 (by omega) (by omega)
  repeat (first | exact Ev.now _ | refine Ev.bind hS ?_ | refine Ev.bind hI ?_ | refine Ev.bind (toI _ (by assumption)) ?_ | refine Ev.bind (eqI _ (by assumption)) ?_ | refine Ev.bind hmk ?_ | refine Ev.bind hmx ?_ | refine Ev.bind hhl ?_ | refine Ev.pos (by with_reducible rfl) ?_ | refine Ev.neg (by omega) ?_ | refine Ev.neg (by simp; done) ?_ | refine Ev.pos (by omega) ?_ | (refine Ev.shift ?_; simp only [laws_FnExactAccentsOf.j0, laws_FnExactAccentsOf.j1, laws_FnExactAccentsOf.j2]))

end Go.Proofs.Ytmipmpgpolbefaa.Pure
