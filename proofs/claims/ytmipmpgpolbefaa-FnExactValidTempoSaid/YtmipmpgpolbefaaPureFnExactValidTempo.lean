/- The pure statement of the law FnExactValidTempo: what the Go functions compute, told by plain Lean functions, is what the law asks, for all arguments. No condition beyond the printed ones. -/
import Derived.Test.YtmipmpgpolbefaaPFnExactValidTempoxo
import Derived.Test.YtmipmpgpolbefaaXW
namespace Go.Proofs.Ytmipmpgpolbefaa.Pure
open Go.RowKit Go.Proofs.Ytmipmpgpolbefaa.PFnExactValidTempo Go.Proofs.YtmipmpgpolbefaaW.PrintWords Go.Proofs.YtmipmpgpolbefaaW.PrintLast Go.Proofs.YtmipmpgpolbefaaW.PrintMore Go.Proofs.YtmipmpgpolbefaaXW
set_option linter.unusedVariables false
set_option linter.unusedSimpArgs false
theorem in_eq (a b c : Int) : spec_l00In.f a b c = some (decide (b ≤ a ∧ a ≤ c)) := by
  unfold spec_l00In.f; split <;> simp_all; omega
theorem within_eq (a b c : Int) : impl_within.f a b c = some (decide (b ≤ a ∧ a ≤ c)) := by
  unfold impl_within.f; split <;> simp_all; omega
def cpTempoMark (l : List S63) : List S61 := l.map fun x => ⟨x.f0, x.f1⟩
theorem toTempoMark_l0 (l : List S63) (hl : l.length ≤ 17592186044416) (d : Nat) : ∀ (i : Nat) (acc : List S61), i + d = l.length → acc.length = l.length → acc.take i = (cpTempoMark l).take i → Ev (fun k => laws_toTempoMarkS.l0 k l acc i) (cpTempoMark l) := by
  have hc : (cpTempoMark l).length = l.length := List.length_map _
  induction d with
  | zero =>
    intro i acc h1 h2 h3
    refine Ev.shift ?_
    simp only [laws_toTempoMarkS.l0]
    refine Ev.neg (by omega) (Ev.some ?_)
    rw [List.take_of_length_le (by omega), List.take_of_length_le (by omega)] at h3
    rw [h3]
  | succ d ih =>
    intro i acc h1 h2 h3
    refine Ev.shift ?_
    simp only [laws_toTempoMarkS.l0, laws_toTempoMark.f, Option.bind_some]
    refine Ev.pos (by omega) (Ev.pos (by omega) (Ev.pos (by omega) ?_))
    rw [wid (by omega), Int.toNat_natCast]
    refine ih (i + 1) _ (by omega) (by rw [List.length_set, h2]) ?_
    rw [List.take_succ_eq_append_getElem (by rw [List.length_set]; omega), List.take_succ_eq_append_getElem (by omega), List.take_set_of_le (by omega), List.getElem_set_self, h3]
    have e : rd_T63 l (i : Int) = l[i] := by
      unfold rd_T63
      rw [Int.toNat_natCast, List.getD_eq_getElem?_getD, List.getElem?_eq_getElem (by omega), Option.getD_some]
    simp only [cpTempoMark, List.getElem_map, e]
theorem toTempoMark (l : List S63) (hl : l.length ≤ 17592186044416) : Ev (fun k => laws_toTempoMarkS.f k l) (cpTempoMark l) := by
  unfold laws_toTempoMarkS.f
  refine Ev.pos (by omega) (Ev.pos (by omega) ?_)
  rw [Int.toNat_natCast]
  exact toTempoMark_l0 l hl l.length 0 _ (by omega) (by simp) (by simp)
theorem cpTempoMark_length (l : List S63) : (cpTempoMark l).length = l.length := List.length_map _
theorem eqTempoMark_l0 (l : List S61) (hl : l.length ≤ 17592186044416) (d : Nat) : ∀ (i : Nat), i + d = l.length → Ev (fun k => laws_eqTempoMarkS.l0 k l l i) true := by
  induction d with
  | zero =>
    intro i h1
    refine Ev.shift ?_
    simp only [laws_eqTempoMarkS.l0]
    exact Ev.neg (by omega) (Ev.now _)
  | succ d ih =>
    intro i h1
    refine Ev.shift ?_
    simp only [laws_eqTempoMarkS.l0, laws_eqTempoMark.f, Option.bind_some, if_true]
    refine Ev.pos (by omega) (Ev.pos (by omega) (Ev.pos (by omega) ?_))
    rw [wid (by omega)]
    exact ih (i + 1) (by omega)
theorem eqTempoMark (l : List S61) (hl : l.length ≤ 17592186044416) : Ev (fun k => laws_eqTempoMarkS.f k l l) true := by
  unfold laws_eqTempoMarkS.f
  exact Ev.pos rfl (eqTempoMark_l0 l hl l.length 0 (by omega))
theorem szTempoMark (l : List S63) (hl : l.length ≤ maxLen) : laws_szTempoMarkS.f l 1048576 = some (if l.length ≤ 1048576 then 1048576 - (l.length : Int) else -1) := by
  unfold laws_szTempoMarkS.f
  unfold maxLen at hl
  rw [wid (by omega)]
  by_cases h : l.length ≤ 1048576
  · rw [if_neg (by omega), if_pos h]
  · rw [if_pos (by omega), if_neg h]
def tmQ (l : List S61) (j : Nat) : Bool := decide (0 ≤ (l.getD j z61).f0 ∧ (l.getD j z61).f0 ≤ 2000) && (decide (10 ≤ (l.getD j z61).f1 ∧ (l.getD j z61).f1 ≤ 600) && (decide (j = 0) || decide ((l.getD (j - 1) z61).f0 < (l.getD j z61).f0)))
def tempoB (l : List S61) : Bool := allF (tmQ l) l.length 0 && (decide (1 ≤ l.length ∧ l.length ≤ 16) && decide ((l.getD 0 z61).f0 = 0))
theorem rdTM (l : List S61) (i : Nat) : rd_T61 l (i : Int) = l.getD i z61 := by
  unfold rd_T61; rw [Int.toNat_natCast]
theorem sTempo_l0 (l : List S61) (hl : l.length ≤ 17592186044416) (d : Nat) : ∀ (i : Nat), i + d = l.length → Ev (fun k => spec_l22Ok.l0 k l i) (allF (tmQ l) l.length i && (decide (1 ≤ l.length ∧ l.length ≤ 16) && decide ((l.getD 0 z61).f0 = 0))) := by
  induction d with
  | zero =>
    intro i h1
    refine Ev.shift ?_
    simp only [spec_l22Ok.l0]
    refine Ev.neg (by omega) ?_
    rw [allF_end _ (by omega), Bool.true_and]
    by_cases h2 : 1 ≤ l.length
    · refine Ev.pos (by omega) ?_
      by_cases h3 : l.length ≤ 16
      · refine Ev.pos (by omega) (Ev.pos (by omega) (Ev.some ?_))
        have e := rdTM l 0
        simp only [Int.natCast_zero] at e
        rw [e]
        simp only [h2, h3, and_self, decide_true, Bool.true_and]
        rfl
      · refine Ev.neg (by omega) (Ev.some ?_)
        simp [h3]
    · refine Ev.neg (by omega) (Ev.some ?_)
      simp [h2]
  | succ d ih =>
    intro i h1
    refine Ev.shift ?_
    simp only [spec_l22Ok.l0, spec_l22Beat.f, spec_l22Tempo.f, in_eq, Option.bind_some]
    refine Ev.pos (by omega) (Ev.pos (by omega) ?_)
    rw [rdTM]
    by_cases hb : 0 ≤ (l.getD i z61).f0 ∧ (l.getD i z61).f0 ≤ 2000
    · refine Ev.pos (decide_eq_true hb) ?_
      by_cases ht : 10 ≤ (l.getD i z61).f1 ∧ (l.getD i z61).f1 ≤ 600
      · refine Ev.pos (decide_eq_true ht) ?_
        cases i with
        | zero =>
          refine Ev.neg (by omega) ?_
          rw [wid (by omega), allF_yes _ (by simp only [tmQ, decide_eq_true hb, decide_eq_true ht]; rfl)]
          exact ih 1 (by omega)
        | succ i =>
          refine Ev.pos (by omega) ?_
          have e1 : wrap64 (((i + 1 : Nat) : Int) - 1) = (i : Int) := by rw [wid (by omega)]; omega
          rw [e1, rdTM]
          refine Ev.pos (by omega) (Ev.pos (by omega) ?_)
          by_cases hc : (l.getD i z61).f0 < (l.getD (i + 1) z61).f0
          · refine Ev.neg (by omega) ?_
            rw [wid (by omega), allF_yes _ (by simp only [tmQ, decide_eq_true hb, decide_eq_true ht, Nat.add_sub_cancel, decide_eq_true hc]; simp)]
            exact ih (i + 2) (by omega)
          · refine Ev.pos (by omega) (Ev.some ?_)
            rw [allF_no _ (by omega) (by simp only [tmQ, Nat.add_sub_cancel, decide_eq_false hc]; simp), Bool.false_and]
      · refine Ev.neg (by simpa using ht) (Ev.some ?_)
        rw [allF_no _ (by omega) (by simp only [tmQ, decide_eq_false ht]; simp), Bool.false_and]
    · refine Ev.neg (by simpa using hb) (Ev.some ?_)
      rw [allF_no _ (by omega) (by simp only [tmQ, decide_eq_false hb]; simp), Bool.false_and]
theorem sTempo (l : List S61) (hl : l.length ≤ 17592186044416) : Ev (fun k => spec_l22Ok.f k l) (tempoB l) := by
  unfold spec_l22Ok.f tempoB
  exact sTempo_l0 l hl l.length 0 (by omega)
theorem tempoB_len {l : List S61} (h : tempoB l = true) : 1 ≤ l.length ∧ l.length ≤ 16 := by
  unfold tempoB at h; simp only [Bool.and_eq_true] at h; exact of_decide_eq_true h.2.1
theorem tempoB_zero {l : List S61} (h : tempoB l = true) : (l.getD 0 z61).f0 = 0 := by
  unfold tempoB at h; simp only [Bool.and_eq_true] at h; exact of_decide_eq_true h.2.2
theorem tempoB_get {l : List S61} (h : tempoB l = true) (j : Nat) (hj : j < l.length) : (0 ≤ (l.getD j z61).f0 ∧ (l.getD j z61).f0 ≤ 2000) ∧ 10 ≤ (l.getD j z61).f1 ∧ (l.getD j z61).f1 ≤ 600 := by
  unfold tempoB at h; simp only [Bool.and_eq_true] at h
  have := (allF_iff _).1 h.1 j hj (Nat.zero_le _)
  simp only [tmQ, Bool.and_eq_true] at this
  exact ⟨of_decide_eq_true this.1, of_decide_eq_true this.2.1⟩
theorem tempoB_lt {l : List S61} (h : tempoB l = true) (j : Nat) (hj : j + 1 < l.length) : (l.getD j z61).f0 < (l.getD (j + 1) z61).f0 := by
  unfold tempoB at h; simp only [Bool.and_eq_true] at h
  have := (allF_iff _).1 h.1 (j + 1) hj (Nat.zero_le _)
  simp only [tmQ, Bool.and_eq_true, Bool.or_eq_true, Nat.add_sub_cancel] at this
  rcases this.2.2 with e | e
  · exact absurd (of_decide_eq_true e) (by omega)
  · exact of_decide_eq_true e
theorem iTempo_l0 (l : List S61) (hl : l.length ≤ 17592186044416) (h0 : (l.getD 0 z61).f0 = 0) (d : Nat) : ∀ (i : Nat), i + d = l.length → (0 < i → 0 ≤ (l.getD (i - 1) z61).f0) → Ev (fun k => impl_ValidTempo.l0 k l l l.length i) (allF (tmQ l) l.length i) := by
  induction d with
  | zero =>
    intro i h1 _
    refine Ev.shift ?_
    simp only [impl_ValidTempo.l0]
    refine Ev.neg (by omega) (Ev.some ?_)
    rw [allF_end _ (by omega)]
  | succ d ih =>
    intro i h1 hp
    refine Ev.shift ?_
    simp only [impl_ValidTempo.l0, impl_tempoOk.f, within_eq, Option.bind_some]
    refine Ev.pos (by omega) (Ev.pos (by omega) (Ev.pos (by omega) ?_))
    rw [rdTM]
    by_cases ht : 10 ≤ (l.getD i z61).f1 ∧ (l.getD i z61).f1 ≤ 600
    · refine Ev.pos (decide_eq_true ht) ?_
      by_cases hb : (l.getD i z61).f0 > 2000
      · refine Ev.pos hb (Ev.some ?_)
        rw [allF_no _ (by omega) (by simp only [tmQ, decide_eq_false (show ¬ (0 ≤ (l.getD i z61).f0 ∧ (l.getD i z61).f0 ≤ 2000) by omega)]; simp)]
      · refine Ev.neg hb ?_
        cases i with
        | zero =>
          refine Ev.neg (by omega) ?_
          rw [wid (by omega), allF_yes _ (by simp only [tmQ, decide_eq_true (show 0 ≤ (l.getD 0 z61).f0 ∧ (l.getD 0 z61).f0 ≤ 2000 by omega), decide_eq_true ht]; rfl)]
          exact ih 1 (by omega) (fun _ => by simp only [Nat.sub_self]; omega)
        | succ i =>
          refine Ev.pos (by omega) ?_
          have e1 : wrap64 (((i + 1 : Nat) : Int) - 1) = (i : Int) := by rw [wid (by omega)]; omega
          rw [e1, rdTM]
          refine Ev.pos (by omega) (Ev.pos (by omega) ?_)
          have hq := hp (by omega)
          rw [Nat.add_sub_cancel] at hq
          by_cases hc : (l.getD i z61).f0 < (l.getD (i + 1) z61).f0
          · refine Ev.neg (by omega) ?_
            rw [wid (by omega), allF_yes _ (by simp only [tmQ, decide_eq_true (show 0 ≤ (l.getD (i + 1) z61).f0 ∧ (l.getD (i + 1) z61).f0 ≤ 2000 by omega), decide_eq_true ht, Nat.add_sub_cancel, decide_eq_true hc]; simp)]
            exact ih (i + 2) (by omega) (fun _ => by show 0 ≤ (l.getD (i + 1) z61).f0; omega)
          · refine Ev.pos (by omega) (Ev.some ?_)
            rw [allF_no _ (by omega) (by simp only [tmQ, Nat.add_sub_cancel, decide_eq_false hc]; simp)]
    · refine Ev.neg (by simpa using ht) (Ev.some ?_)
      rw [allF_no _ (by omega) (by simp only [tmQ, decide_eq_false ht]; simp)]
theorem iTempo (l : List S61) (hl : l.length ≤ 17592186044416) : Ev (fun k => impl_ValidTempo.f k l) (tempoB l) := by
  unfold impl_ValidTempo.f tempoB
  by_cases h1 : (l.length : Int) < 1
  · refine Ev.pos h1 (Ev.shift ?_)
    simp only [impl_ValidTempo.j0]
    refine Ev.some ?_
    simp [show ¬ (1 ≤ l.length) by omega]
  refine Ev.neg h1 ?_
  by_cases h2 : (l.length : Int) > 16
  · refine Ev.pos h2 (Ev.shift ?_)
    simp only [impl_ValidTempo.j0]
    refine Ev.some ?_
    simp [show ¬ (l.length ≤ 16) by omega]
  refine Ev.neg h2 (Ev.pos (by omega) (Ev.shift ?_))
  simp only [impl_ValidTempo.j0]
  have e := rdTM l 0
  simp only [Int.natCast_zero] at e
  rw [e]
  by_cases h0 : (l.getD 0 z61).f0 = 0
  · refine Ev.neg (by rw [h0]; decide) ?_
    rw [decide_eq_true h0, decide_eq_true (show 1 ≤ l.length ∧ l.length ≤ 16 by omega), Bool.and_true, Bool.and_true]
    exact iTempo_l0 l hl h0 l.length 0 (by omega) (by omega)
  · refine Ev.pos (by simpa using h0) (Ev.some ?_)
    rw [decide_eq_false h0, Bool.and_false, Bool.and_false]
theorem FnExactValidTempo : laws_FnExactValidTempo.Pure := by
  intro l hm
  refine Ev.rounds (g := fun k => laws_FnExactValidTempo.f k l) ?_
  unfold laws_FnExactValidTempo.f
  rw [szTempoMark l hm.1]
  simp only [Option.bind_some]
  by_cases hl : l.length ≤ 1048576
  · rw [if_pos hl]
    refine Ev.neg (by omega) ?_
    have hl' : l.length ≤ 17592186044416 := by omega
    have hc : (cpTempoMark l).length ≤ 17592186044416 := by rw [cpTempoMark_length]; exact hl'
    have hs : Ev (fun k => spec_ValidTempo.f k (cpTempoMark l)) (tempoB (cpTempoMark l)) := by
      unfold spec_ValidTempo.f; exact Ev.bind (sTempo _ hc) (Ev.now _)
    refine Ev.bind (toTempoMark l hl') (Ev.bind hs (Ev.bind (toTempoMark l hl') (Ev.bind (iTempo _ hc) ?_)))
    refine Ev.neg (by simp) ?_
    exact Ev.bind (toTempoMark l hl') (Ev.bind (eqTempoMark _ hc) (Ev.pos rfl (Ev.now _)))
  · rw [if_neg hl]
    exact Ev.pos (by omega) (Ev.now _)

end Go.Proofs.Ytmipmpgpolbefaa.Pure
