/- The pure statement of the law FnExactRampTo: what the Go functions compute, told by plain Lean functions, is what the law asks, for all arguments. No condition beyond the printed ones. -/
import Derived.Test.YtapjnnaaflinlaaPFnExactRampToxo
import Derived.Test.YtapjnnaaflinlaaXW
namespace Go.Proofs.Ytapjnnaaflinlaa.Pure
open Go.RowKit Go.Proofs.Ytapjnnaaflinlaa.PFnExactRampTo Go.Proofs.YtapjnnaaflinlaaW.PrintWords Go.Proofs.YtapjnnaaflinlaaW.PrintLast Go.Proofs.YtapjnnaaflinlaaW.PrintMore Go.Proofs.YtapjnnaaflinlaaXW
set_option linter.unusedVariables false
set_option linter.unusedSimpArgs false
theorem in_eq (a b c : Int) : spec_l00In.f a b c = some (decide (b ≤ a ∧ a ≤ c)) := by
  unfold spec_l00In.f; split <;> simp_all; omega
theorem within_eq (a b c : Int) : impl_within.f a b c = some (decide (b ≤ a ∧ a ≤ c)) := by
  unfold impl_within.f; split <;> simp_all; omega
def cpTempoMark (l : List S56) : List S54 := l.map fun x => ⟨x.f0, x.f1⟩
theorem toTempoMark_l0 (l : List S56) (hl : l.length ≤ 17592186044416) (d : Nat) : ∀ (i : Nat) (acc : List S54), i + d = l.length → acc.length = l.length → acc.take i = (cpTempoMark l).take i → Ev (fun k => laws_toTempoMarkS.l0 k l acc i) (cpTempoMark l) := by
  have hc : (cpTempoMark l).length = l.length := List.length_map _
  induction d with
  | zero =>
    intro i acc h1 h2 h3
    refine Ev.shift ?_
    simp only [laws_toTempoMarkS.l0]
    refine Ev.neg (by omega) (Ev.some ?_)
    rw [List.take_of_length_le (by omega), List.take_of_length_le (by omega)] at h3
    rw [h3]
  | succ d ih =>
    intro i acc h1 h2 h3
    refine Ev.shift ?_
    simp only [laws_toTempoMarkS.l0, laws_toTempoMark.f, Option.bind_some]
    refine Ev.pos (by omega) (Ev.pos (by omega) (Ev.pos (by omega) ?_))
    rw [wid (by omega), Int.toNat_natCast]
    refine ih (i + 1) _ (by omega) (by rw [List.length_set, h2]) ?_
    rw [List.take_succ_eq_append_getElem (by rw [List.length_set]; omega), List.take_succ_eq_append_getElem (by omega), List.take_set_of_le (by omega), List.getElem_set_self, h3]
    have e : rd_T56 l (i : Int) = l[i] := by
      unfold rd_T56
      rw [Int.toNat_natCast, List.getD_eq_getElem?_getD, List.getElem?_eq_getElem (by omega), Option.getD_some]
    simp only [cpTempoMark, List.getElem_map, e]
theorem toTempoMark (l : List S56) (hl : l.length ≤ 17592186044416) : Ev (fun k => laws_toTempoMarkS.f k l) (cpTempoMark l) := by
  unfold laws_toTempoMarkS.f
  refine Ev.pos (by omega) (Ev.pos (by omega) ?_)
  rw [Int.toNat_natCast]
  exact toTempoMark_l0 l hl l.length 0 _ (by omega) (by simp) (by simp)
theorem cpTempoMark_length (l : List S56) : (cpTempoMark l).length = l.length := List.length_map _
theorem eqTempoMark_l0 (l : List S54) (hl : l.length ≤ 17592186044416) (d : Nat) : ∀ (i : Nat), i + d = l.length → Ev (fun k => laws_eqTempoMarkS.l0 k l l i) true := by
  induction d with
  | zero =>
    intro i h1
    refine Ev.shift ?_
    simp only [laws_eqTempoMarkS.l0]
    exact Ev.neg (by omega) (Ev.now _)
  | succ d ih =>
    intro i h1
    refine Ev.shift ?_
    simp only [laws_eqTempoMarkS.l0, laws_eqTempoMark.f, Option.bind_some, if_true]
    refine Ev.pos (by omega) (Ev.pos (by omega) (Ev.pos (by omega) ?_))
    rw [wid (by omega)]
    exact ih (i + 1) (by omega)
theorem eqTempoMark (l : List S54) (hl : l.length ≤ 17592186044416) : Ev (fun k => laws_eqTempoMarkS.f k l l) true := by
  unfold laws_eqTempoMarkS.f
  exact Ev.pos rfl (eqTempoMark_l0 l hl l.length 0 (by omega))
theorem szTempoMark (l : List S56) (hl : l.length ≤ maxLen) : laws_szTempoMarkS.f l 1048576 = some (if l.length ≤ 1048576 then 1048576 - (l.length : Int) else -1) := by
  unfold laws_szTempoMarkS.f
  unfold maxLen at hl
  rw [wid (by omega)]
  by_cases h : l.length ≤ 1048576
  · rw [if_neg (by omega), if_pos h]
  · rw [if_pos (by omega), if_neg h]
def tmQ (l : List S54) (j : Nat) : Bool := decide (0 ≤ (l.getD j z54).f0 ∧ (l.getD j z54).f0 ≤ 2000) && (decide (10 ≤ (l.getD j z54).f1 ∧ (l.getD j z54).f1 ≤ 600) && (decide (j = 0) || decide ((l.getD (j - 1) z54).f0 < (l.getD j z54).f0)))
def tempoB (l : List S54) : Bool := allF (tmQ l) l.length 0 && (decide (1 ≤ l.length ∧ l.length ≤ 16) && decide ((l.getD 0 z54).f0 = 0))
theorem rdTM (l : List S54) (i : Nat) : rd_T54 l (i : Int) = l.getD i z54 := by
  unfold rd_T54; rw [Int.toNat_natCast]
theorem sTempo_l0 (l : List S54) (hl : l.length ≤ 17592186044416) (d : Nat) : ∀ (i : Nat), i + d = l.length → Ev (fun k => spec_l22Ok.l0 k l i) (allF (tmQ l) l.length i && (decide (1 ≤ l.length ∧ l.length ≤ 16) && decide ((l.getD 0 z54).f0 = 0))) := by
  induction d with
  | zero =>
    intro i h1
    refine Ev.shift ?_
    simp only [spec_l22Ok.l0]
    refine Ev.neg (by omega) ?_
    rw [allF_end _ (by omega), Bool.true_and]
    by_cases h2 : 1 ≤ l.length
    · refine Ev.pos (by omega) ?_
      by_cases h3 : l.length ≤ 16
      · refine Ev.pos (by omega) (Ev.pos (by omega) (Ev.some ?_))
        have e := rdTM l 0
        simp only [Int.natCast_zero] at e
        rw [e]
        simp only [h2, h3, and_self, decide_true, Bool.true_and]
        rfl
      · refine Ev.neg (by omega) (Ev.some ?_)
        simp [h3]
    · refine Ev.neg (by omega) (Ev.some ?_)
      simp [h2]
  | succ d ih =>
    intro i h1
    refine Ev.shift ?_
    simp only [spec_l22Ok.l0, spec_l22Beat.f, spec_l22Tempo.f, in_eq, Option.bind_some]
    refine Ev.pos (by omega) (Ev.pos (by omega) ?_)
    rw [rdTM]
    by_cases hb : 0 ≤ (l.getD i z54).f0 ∧ (l.getD i z54).f0 ≤ 2000
    · refine Ev.pos (decide_eq_true hb) ?_
      by_cases ht : 10 ≤ (l.getD i z54).f1 ∧ (l.getD i z54).f1 ≤ 600
      · refine Ev.pos (decide_eq_true ht) ?_
        cases i with
        | zero =>
          refine Ev.neg (by omega) ?_
          rw [wid (by omega), allF_yes _ (by simp only [tmQ, decide_eq_true hb, decide_eq_true ht]; rfl)]
          exact ih 1 (by omega)
        | succ i =>
          refine Ev.pos (by omega) ?_
          have e1 : wrap64 (((i + 1 : Nat) : Int) - 1) = (i : Int) := by rw [wid (by omega)]; omega
          rw [e1, rdTM]
          refine Ev.pos (by omega) (Ev.pos (by omega) ?_)
          by_cases hc : (l.getD i z54).f0 < (l.getD (i + 1) z54).f0
          · refine Ev.neg (by omega) ?_
            rw [wid (by omega), allF_yes _ (by simp only [tmQ, decide_eq_true hb, decide_eq_true ht, Nat.add_sub_cancel, decide_eq_true hc]; simp)]
            exact ih (i + 2) (by omega)
          · refine Ev.pos (by omega) (Ev.some ?_)
            rw [allF_no _ (by omega) (by simp only [tmQ, Nat.add_sub_cancel, decide_eq_false hc]; simp), Bool.false_and]
      · refine Ev.neg (by simpa using ht) (Ev.some ?_)
        rw [allF_no _ (by omega) (by simp only [tmQ, decide_eq_false ht]; simp), Bool.false_and]
    · refine Ev.neg (by simpa using hb) (Ev.some ?_)
      rw [allF_no _ (by omega) (by simp only [tmQ, decide_eq_false hb]; simp), Bool.false_and]
theorem sTempo (l : List S54) (hl : l.length ≤ 17592186044416) : Ev (fun k => spec_l22Ok.f k l) (tempoB l) := by
  unfold spec_l22Ok.f tempoB
  exact sTempo_l0 l hl l.length 0 (by omega)
theorem tempoB_len {l : List S54} (h : tempoB l = true) : 1 ≤ l.length ∧ l.length ≤ 16 := by
  unfold tempoB at h; simp only [Bool.and_eq_true] at h; exact of_decide_eq_true h.2.1
theorem tempoB_zero {l : List S54} (h : tempoB l = true) : (l.getD 0 z54).f0 = 0 := by
  unfold tempoB at h; simp only [Bool.and_eq_true] at h; exact of_decide_eq_true h.2.2
theorem tempoB_get {l : List S54} (h : tempoB l = true) (j : Nat) (hj : j < l.length) : (0 ≤ (l.getD j z54).f0 ∧ (l.getD j z54).f0 ≤ 2000) ∧ 10 ≤ (l.getD j z54).f1 ∧ (l.getD j z54).f1 ≤ 600 := by
  unfold tempoB at h; simp only [Bool.and_eq_true] at h
  have := (allF_iff _).1 h.1 j hj (Nat.zero_le _)
  simp only [tmQ, Bool.and_eq_true] at this
  exact ⟨of_decide_eq_true this.1, of_decide_eq_true this.2.1⟩
theorem tempoB_lt {l : List S54} (h : tempoB l = true) (j : Nat) (hj : j + 1 < l.length) : (l.getD j z54).f0 < (l.getD (j + 1) z54).f0 := by
  unfold tempoB at h; simp only [Bool.and_eq_true] at h
  have := (allF_iff _).1 h.1 (j + 1) hj (Nat.zero_le _)
  simp only [tmQ, Bool.and_eq_true, Bool.or_eq_true, Nat.add_sub_cancel] at this
  rcases this.2.2 with e | e
  · exact absurd (of_decide_eq_true e) (by omega)
  · exact of_decide_eq_true e
theorem iTempo_l0 (l : List S54) (hl : l.length ≤ 17592186044416) (h0 : (l.getD 0 z54).f0 = 0) (d : Nat) : ∀ (i : Nat), i + d = l.length → (0 < i → 0 ≤ (l.getD (i - 1) z54).f0) → Ev (fun k => impl_ValidTempo.l0 k l l l.length i) (allF (tmQ l) l.length i) := by
  induction d with
  | zero =>
    intro i h1 _
    refine Ev.shift ?_
    simp only [impl_ValidTempo.l0]
    refine Ev.neg (by omega) (Ev.some ?_)
    rw [allF_end _ (by omega)]
  | succ d ih =>
    intro i h1 hp
    refine Ev.shift ?_
    simp only [impl_ValidTempo.l0, impl_tempoOk.f, within_eq, Option.bind_some]
    refine Ev.pos (by omega) (Ev.pos (by omega) (Ev.pos (by omega) ?_))
    rw [rdTM]
    by_cases ht : 10 ≤ (l.getD i z54).f1 ∧ (l.getD i z54).f1 ≤ 600
    · refine Ev.pos (decide_eq_true ht) ?_
      by_cases hb : (l.getD i z54).f0 > 2000
      · refine Ev.pos hb (Ev.some ?_)
        rw [allF_no _ (by omega) (by simp only [tmQ, decide_eq_false (show ¬ (0 ≤ (l.getD i z54).f0 ∧ (l.getD i z54).f0 ≤ 2000) by omega)]; simp)]
      · refine Ev.neg hb ?_
        cases i with
        | zero =>
          refine Ev.neg (by omega) ?_
          rw [wid (by omega), allF_yes _ (by simp only [tmQ, decide_eq_true (show 0 ≤ (l.getD 0 z54).f0 ∧ (l.getD 0 z54).f0 ≤ 2000 by omega), decide_eq_true ht]; rfl)]
          exact ih 1 (by omega) (fun _ => by simp only [Nat.sub_self]; omega)
        | succ i =>
          refine Ev.pos (by omega) ?_
          have e1 : wrap64 (((i + 1 : Nat) : Int) - 1) = (i : Int) := by rw [wid (by omega)]; omega
          rw [e1, rdTM]
          refine Ev.pos (by omega) (Ev.pos (by omega) ?_)
          have hq := hp (by omega)
          rw [Nat.add_sub_cancel] at hq
          by_cases hc : (l.getD i z54).f0 < (l.getD (i + 1) z54).f0
          · refine Ev.neg (by omega) ?_
            rw [wid (by omega), allF_yes _ (by simp only [tmQ, decide_eq_true (show 0 ≤ (l.getD (i + 1) z54).f0 ∧ (l.getD (i + 1) z54).f0 ≤ 2000 by omega), decide_eq_true ht, Nat.add_sub_cancel, decide_eq_true hc]; simp)]
            exact ih (i + 2) (by omega) (fun _ => by show 0 ≤ (l.getD (i + 1) z54).f0; omega)
          · refine Ev.pos (by omega) (Ev.some ?_)
            rw [allF_no _ (by omega) (by simp only [tmQ, Nat.add_sub_cancel, decide_eq_false hc]; simp)]
    · refine Ev.neg (by simpa using ht) (Ev.some ?_)
      rw [allF_no _ (by omega) (by simp only [tmQ, decide_eq_false ht]; simp)]
theorem iTempo (l : List S54) (hl : l.length ≤ 17592186044416) : Ev (fun k => impl_ValidTempo.f k l) (tempoB l) := by
  unfold impl_ValidTempo.f tempoB
  by_cases h1 : (l.length : Int) < 1
  · refine Ev.pos h1 (Ev.shift ?_)
    simp only [impl_ValidTempo.j0]
    refine Ev.some ?_
    simp [show ¬ (1 ≤ l.length) by omega]
  refine Ev.neg h1 ?_
  by_cases h2 : (l.length : Int) > 16
  · refine Ev.pos h2 (Ev.shift ?_)
    simp only [impl_ValidTempo.j0]
    refine Ev.some ?_
    simp [show ¬ (l.length ≤ 16) by omega]
  refine Ev.neg h2 (Ev.pos (by omega) (Ev.shift ?_))
  simp only [impl_ValidTempo.j0]
  have e := rdTM l 0
  simp only [Int.natCast_zero] at e
  rw [e]
  by_cases h0 : (l.getD 0 z54).f0 = 0
  · refine Ev.neg (by rw [h0]; decide) ?_
    rw [decide_eq_true h0, decide_eq_true (show 1 ≤ l.length ∧ l.length ≤ 16 by omega), Bool.and_true, Bool.and_true]
    exact iTempo_l0 l hl h0 l.length 0 (by omega) (by omega)
  · refine Ev.pos (by simpa using h0) (Ev.some ?_)
    rw [decide_eq_false h0, Bool.and_false, Bool.and_false]
theorem getDsetTempoMark (l : List S54) (i j : Nat) (v : S54) (h : i < l.length) : (l.set i v).getD j z54 = if i = j then v else l.getD j z54 := by
  rw [List.getD_eq_getElem?_getD, List.getElem?_set, List.getD_eq_getElem?_getD]
  split
  · rename_i e; subst e; simp [h]
  · rfl
theorem rdMTempoMark (l : List S54) (i : Nat) : rd_T54 l (i : Int) = l.getD i z54 := by
  unfold rd_T54
  rw [Int.toNat_natCast]
theorem markTempoMark_l0 (m0 : Int) (n : Nat) (h0 : 0 ≤ m0) (h1 : m0 + 2 * n ≤ 9000000000000000000) (d : Nat) : ∀ (i : Nat) (acc : List S54), i + d = n → acc.length = n → (∀ j, j < i → acc.getD j z54 = ⟨m0 + 2 * j, m0 + 2 * j + 1⟩) → ∃ l', l'.length = n ∧ (∀ j, j < n → l'.getD j z54 = ⟨m0 + 2 * j, m0 + 2 * j + 1⟩) ∧ Ev (fun k => laws_markTempoMarkS.l0 k acc (m0 + 2 * i) i) (m0 + 2 * n, l') := by
  induction d with
  | zero =>
    intro i acc hi ha h
    obtain rfl : i = n := by omega
    refine ⟨acc, ha, h, ?_⟩
    refine Ev.shift ?_
    simp only [laws_markTempoMarkS.l0]
    exact Ev.neg (by omega) (Ev.now _)
  | succ d ih =>
    intro i acc hi ha h
    have g1 := getDsetTempoMark acc i i ⟨m0 + 2 * i, (acc.getD i z54).f1⟩ (by omega)
    rw [if_pos rfl] at g1
    have w1 : wrap64 (m0 + 2 * (i : Int) + 1) = m0 + 2 * i + 1 := wid (by omega)
    have w2 : wrap64 (m0 + 2 * (i : Int) + 1 + 1) = m0 + 2 * ((i + 1 : Nat) : Int) := by rw [wid (by omega)]; omega
    have w3 : wrap64 ((i : Int) + 1) = ((i + 1 : Nat) : Int) := by rw [wid (by omega)]; rfl
    obtain ⟨l', a1, a2, a3⟩ := ih (i + 1) (acc.set i ⟨m0 + 2 * i, m0 + 2 * i + 1⟩) (by omega) (by rw [List.length_set]; exact ha) (fun j hj => by
      rw [getDsetTempoMark acc i j _ (by omega)]
      split
      · rename_i e; rw [e]
      · exact h j (by omega))
    refine ⟨l', a1, a2, ?_⟩
    refine Ev.shift ?_
    simp only [laws_markTempoMarkS.l0]
    clear a1 a2 ih h
    have p1 : (i : Int) < (acc.length : Int) := by clear w1 w2 w3 g1; omega
    refine Ev.pos p1 (Ev.pos (Int.natCast_nonneg _) ?_)
    simp only [Option.bind_some, Int.toNat_natCast, rdMTempoMark, g1, w1, w2, w3, List.set_set]
    exact a3
theorem markTempoMark (l : List S54) (m : Int) (h0 : 0 ≤ m) (h1 : m + 2 * l.length ≤ 9000000000000000000) : ∃ l', l'.length = l.length ∧ (∀ j, j < l.length → l'.getD j z54 = ⟨m + 2 * j, m + 2 * j + 1⟩) ∧ Ev (fun k => laws_markTempoMarkS.f k l m) (m + 2 * l.length, l') := by
  obtain ⟨l', a1, a2, a3⟩ := markTempoMark_l0 m l.length h0 h1 l.length 0 l (by omega) rfl (fun j hj => by omega)
  refine ⟨l', a1, a2, ?_⟩
  have e : m + 2 * ((0 : Nat) : Int) = m := by omega
  rw [e] at a3
  exact a3
theorem heldTempoMark_l0 (m0 : Int) (n : Nat) (h0 : 0 ≤ m0) (h1 : m0 + 2 * n ≤ 9000000000000000000) (l : List S54) (hl : l.length = n) (h : ∀ j, j < n → l.getD j z54 = ⟨m0 + 2 * j, m0 + 2 * j + 1⟩) (d : Nat) : ∀ (i : Nat), i + d = n → Ev (fun k => laws_heldTempoMarkS.l0 k l (m0 + 2 * i) i) (m0 + 2 * n) := by
  induction d with
  | zero =>
    intro i hi
    obtain rfl : i = n := by omega
    refine Ev.shift ?_
    simp only [laws_heldTempoMarkS.l0]
    exact Ev.neg (by omega) (Ev.now _)
  | succ d ih =>
    intro i hi
    have g := h i (by omega)
    have r := ih (i + 1) (by omega)
    clear h ih
    have w1 : wrap64 (m0 + 2 * (i : Int) + 1) = m0 + 2 * i + 1 := wid (by omega)
    have w2 : wrap64 (m0 + 2 * (i : Int) + 1 + 1) = m0 + 2 * ((i + 1 : Nat) : Int) := by rw [wid (by omega)]; omega
    have w3 : wrap64 ((i : Int) + 1) = ((i + 1 : Nat) : Int) := by rw [wid (by omega)]; rfl
    refine Ev.shift ?_
    simp only [laws_heldTempoMarkS.l0, rdMTempoMark, g, w1, w2, w3]
    have p1 : (i : Int) < (l.length : Int) := by clear w1 w2 w3 g; omega
    exact Ev.pos p1 (Ev.pos (Int.natCast_nonneg _) (Ev.pos trivial (Ev.pos trivial r)))
theorem heldTempoMark (m : Int) (l : List S54) (h0 : 0 ≤ m) (h1 : m + 2 * l.length ≤ 9000000000000000000) (h : ∀ j, j < l.length → l.getD j z54 = ⟨m + 2 * j, m + 2 * j + 1⟩) : Ev (fun k => laws_heldTempoMarkS.f k l m) (m + 2 * l.length) := by
  have a := heldTempoMark_l0 m l.length h0 h1 l rfl h l.length 0 (by omega)
  have e : m + 2 * ((0 : Nat) : Int) = m := by omega
  rw [e] at a
  exact a
theorem tempoB_le {l : List S54} (h : tempoB l = true) (i : Nat) (d : Nat) (hj : i + d < l.length) : (l.getD i z54).f0 ≤ (l.getD (i + d) z54).f0 := by
  induction d with
  | zero => exact Int.le_refl _
  | succ d ih =>
    have := ih (by omega)
    have := tempoB_lt h (i + d) (by omega)
    rw [show i + (d + 1) = i + d + 1 by omega]
    omega
theorem getDrt (l : List S54) (k : Nat) (h : k < l.length) : l.getD k z54 = l[k] := by
  rw [List.getD_eq_getElem?_getD, List.getElem?_eq_getElem h]; rfl
theorem rampMono_ok {l : List S54} (h : tempoB l = true) (a1 : Int) : rampMono l a1 = true := by
  unfold rampMono
  rw [List.all_eq_true]
  intro x hx
  obtain ⟨j, hj, rfl⟩ := List.getElem_of_mem hx
  rw [List.length_drop] at hj
  rw [List.getElem_drop]
  have hf : l.findIdx (rampP a1) < l.length := by omega
  have hp := List.findIdx_getElem (w := hf)
  have hle := tempoB_le h (l.findIdx (rampP a1)) j (by omega)
  rw [getDrt l _ hf, getDrt l _ (by omega)] at hle
  unfold rampP at hp ⊢
  have := of_decide_eq_true hp
  exact decide_eq_true (by unfold rampP at hle; omega)
def rampR (l : List S54) (a1 a2 : Int) : List S54 × Int := if 16 < (rampCut l a1 ++ [(⟨a1, a2⟩ : S54)]).length then ([], 5) else (rampCut l a1 ++ [(⟨a1, a2⟩ : S54)], 0)
theorem take_snocT (l : List S54) (i : Nat) (h : i < l.length) : l.take i ++ [l.getD i z54] = l.take (i + 1) := by
  rw [List.take_add_one, List.getElem?_eq_getElem h, Option.toList_some, getDrt l i h]
theorem sRamp_l0 (a1 a2 : Int) (l : List S54) (hl : l.length ≤ 16) (d : Nat) : ∀ i : Nat, i + d = l.length → (∀ j, j < i → rampP a1 (l.getD j z54) = false) → Ev (fun k => spec_RampTo.l0 k l a1 a2 (l.take i) i) (rampR l a1 a2) := by
  induction d with
  | zero =>
    intro i h1 h2
    have hc : rampCut l a1 = l.take i := by
      unfold rampCut
      rw [List.findIdx_eq_length.2 (fun x hx => by
        obtain ⟨j, hj, rfl⟩ := List.getElem_of_mem hx
        have := h2 j (by omega)
        rwa [getDrt l j hj] at this), show l.length = i by omega]
    refine Ev.shift ?_
    simp only [spec_RampTo.l0]
    have hk : (l.take i).length ≤ 16 := by rw [List.length_take]; omega
    refine Ev.neg (by omega) (Ev.pos (by omega) ?_)
    simp only [Option.bind_some]
    unfold rampR
    rw [hc]
    by_cases c : 16 < (l.take i ++ [(⟨a1, a2⟩ : S54)]).length
    · rw [if_pos c]; exact Ev.pos (by omega) (Ev.now _)
    · rw [if_neg c]; exact Ev.neg (by omega) (Ev.now _)
  | succ d ih =>
    intro i h1 h2
    have w1 : wrap64 ((i : Int) + 1) = ((i + 1 : Nat) : Int) := by rw [wid (by omega)]; rfl
    have hk : (l.take i).length ≤ 16 := by rw [List.length_take]; omega
    refine Ev.shift ?_
    simp only [spec_RampTo.l0, rdTM, w1]
    refine Ev.pos (by omega) (Ev.pos (by omega) ?_)
    by_cases c : (l.getD i z54).f0 < a1
    · refine Ev.pos c (Ev.pos (by omega) ?_)
      have := ih (i + 1) (by omega) (fun j hj => by
        by_cases e : j = i
        · subst e; unfold rampP; exact decide_eq_false (by omega)
        · exact h2 j (by omega))
      rw [← take_snocT l i (by omega)] at this
      exact this
    · have hc : rampCut l a1 = l.take i := by
        unfold rampCut
        rw [(List.findIdx_eq (by omega : i < l.length)).2 ⟨by rw [← getDrt l i (by omega)]; unfold rampP; exact decide_eq_true (by omega), fun j hj => by
          have := h2 j hj
          rwa [getDrt l j (by omega)] at this⟩]
      refine Ev.neg c (Ev.pos (by omega) ?_)
      simp only [Option.bind_some]
      unfold rampR
      rw [hc]
      by_cases c : 16 < (l.take i ++ [(⟨a1, a2⟩ : S54)]).length
      · rw [if_pos c]; exact Ev.pos (by omega) (Ev.now _)
      · rw [if_neg c]; exact Ev.neg (by omega) (Ev.now _)
theorem rampTo (l : List S54) (a b : Int) (hl : l.length ≤ 17592186044416) : ∃ r c, r.length ≤ 16 ∧ Ev (fun k => spec_RampTo.f k l a b) (r, c) ∧ Ev (fun k => impl_RampTo.f k l a b) (r, c) := by
  unfold spec_RampTo.f impl_RampTo.f spec_l22Tempo.f impl_tempoOk.f
  simp only [in_eq, within_eq, Option.bind_some]
  have hc := iTempo l hl
  have hs := sTempo l hl
  have j1 : Ev (fun k => spec_RampTo.j0 k l a b true) ([], 2) := by
    refine Ev.shift ?_
    simp only [spec_RampTo.j0]
    exact Ev.pos trivial (Ev.now _)
  cases v : tempoB l with
  | false =>
    rw [v] at hc hs
    exact ⟨[], 1, by simp, Ev.bind hs (Ev.neg (by decide) (Ev.now _)), Ev.bind hc (Ev.neg (by decide) (Ev.now _))⟩
  | true =>
    rw [v] at hc hs
    have h16 := tempoB_len v
    by_cases h1 : 1 ≤ a ∧ a ≤ 2000
    · by_cases h2 : 10 ≤ b ∧ b ≤ 600
      · have hS := sRamp_l0 a b l h16.2 l.length 0 (by omega) (fun j hj => absurd hj (Nat.not_lt_zero _))
        rw [List.take_zero] at hS
        have hr : (rampR l a b).1.length ≤ 16 := by
          unfold rampR
          split
          · simp
          · simp only; omega
        refine ⟨(rampR l a b).1, (rampR l a b).2, hr, Ev.bind hs (Ev.pos rfl (Ev.pos (decide_eq_true h1) ?_)), Ev.bind hc (Ev.pos rfl (Ev.pos (decide_eq_true h1) (Ev.pos (decide_eq_true h2) (Ev.pos ⟨rampMono_ok v a, by omega⟩ ?_))))⟩
        · rw [decide_eq_true h2]
          refine Ev.shift ?_
          simp only [spec_RampTo.j0]
          exact Ev.neg (by simp) hS
        · unfold rampR
          by_cases c : 16 < (rampCut l a ++ [(⟨a, b⟩ : S54)]).length
          · exact Ev.pos c (Ev.some (by rw [if_pos c]))
          · exact Ev.neg c (Ev.some (by rw [if_neg c]))
      · refine ⟨[], 2, by simp, Ev.bind hs (Ev.pos rfl (Ev.pos (decide_eq_true h1) ?_)), Ev.bind hc (Ev.pos rfl (Ev.pos (decide_eq_true h1) (Ev.neg (by rw [decide_eq_true_iff]; exact h2) (Ev.now _))))⟩
        rw [decide_eq_false h2]
        exact j1
    · exact ⟨[], 2, by simp, Ev.bind hs (Ev.pos rfl (Ev.neg (by rw [decide_eq_true_iff]; exact h1) j1)), Ev.bind hc (Ev.pos rfl (Ev.neg (by rw [decide_eq_true_iff]; exact h1) (Ev.now _)))⟩
theorem FnExactRampTo : laws_FnExactRampTo.Pure := by
  intro l a b hm _ _
  refine Ev.rounds (g := fun k => laws_FnExactRampTo.f k l a b) ?_
  unfold laws_FnExactRampTo.f
  rw [szTempoMark l hm.1]
  simp only [Option.bind_some]
  by_cases hl : l.length ≤ 1048576
  · rw [if_pos hl]
    refine Ev.neg (by omega) ?_
    have hl' : l.length ≤ 17592186044416 := by omega
    have hc : (cpTempoMark l).length ≤ 17592186044416 := by rw [cpTempoMark_length]; exact hl'
    obtain ⟨r, c, hr0, hS, hI⟩ := rampTo (cpTempoMark l) a b hc
    have hr : r.length ≤ 17592186044416 := by omega
    obtain ⟨l', _, _, hmx⟩ := markTempoMark (cpTempoMark l) 1 (by omega) (by omega)
    obtain ⟨r', er, hg, hmk⟩ := markTempoMark r 1 (by omega) (by omega)
    have hhl := heldTempoMark 1 r' (by omega) (by omega) (fun j hj => hg j (by omega))
    rw [er] at hhl
    repeat (first | exact Ev.now _ | refine Ev.bind hS ?_ | refine Ev.bind hI ?_ | refine Ev.bind (toTempoMark l hl') ?_ | refine Ev.bind (eqTempoMark _ (by assumption)) ?_ | refine Ev.bind hmk ?_ | refine Ev.bind hmx ?_ | refine Ev.bind hhl ?_ | refine Ev.pos (by with_reducible rfl) ?_ | refine Ev.neg (by omega) ?_ | refine Ev.neg (by simp; done) ?_ | refine Ev.pos (by omega) ?_ | (refine Ev.shift ?_; simp only [laws_FnExactRampTo.j0, laws_FnExactRampTo.j1, laws_FnExactRampTo.j2]))
  · rw [if_neg hl]
    exact Ev.pos (by omega) (Ev.now _)

end Go.Proofs.Ytapjnnaaflinlaa.Pure
