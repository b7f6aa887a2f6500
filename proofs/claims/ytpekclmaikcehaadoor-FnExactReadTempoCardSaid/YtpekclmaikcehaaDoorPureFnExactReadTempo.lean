/- The pure statement of the law FnExactReadTempo: what the Go functions compute, told by plain Lean functions, is what the law asks, for all arguments. No condition beyond the printed ones. -/
import Derived.Test.YtpekclmaikcehaaDoorPFnExactReadTempoxo
import Derived.Test.YtpekclmaikcehaaDoorXW
namespace Go.Proofs.YtpekclmaikcehaaDoor.Pure
open Go.RowKit Go.Proofs.YtpekclmaikcehaaDoor.PFnExactReadTempo Go.Proofs.YtpekclmaikcehaaDoorW.PrintWords Go.Proofs.YtpekclmaikcehaaDoorW.PrintLast Go.Proofs.YtpekclmaikcehaaDoorW.PrintMore Go.Proofs.YtpekclmaikcehaaDoorXW
set_option linter.unusedVariables false
set_option linter.unusedSimpArgs false
def risQ (l : List Int) (lo hi : Int) (j : Nat) : Bool := decide (lo ≤ l.getD j 0 ∧ l.getD j 0 ≤ hi) && (decide (j = 0) || decide (l.getD (j - 1) 0 < l.getD j 0))
theorem in_eq (a b c : Int) : spec_l00In.f a b c = some (decide (b ≤ a ∧ a ≤ c)) := by
  unfold spec_l00In.f; split <;> simp_all; omega
theorem within_eq (a b c : Int) : impl_within.f a b c = some (decide (b ≤ a ∧ a ≤ c)) := by
  unfold impl_within.f; split <;> simp_all; omega
theorem eqTempoMark_l0 (l : List S49) (hl : l.length ≤ 17592186044416) (d : Nat) : ∀ (i : Nat), i + d = l.length → Ev (fun k => laws_eqTempoMarkS.l0 k l l i) true := by
  induction d with
  | zero =>
    intro i h1
    refine Ev.shift ?_
    simp only [laws_eqTempoMarkS.l0]
    exact Ev.neg (by omega) (Ev.now _)
  | succ d ih =>
    intro i h1
    refine Ev.shift ?_
    simp only [laws_eqTempoMarkS.l0, laws_eqTempoMark.f, Option.bind_some, if_true]
    refine Ev.pos (by omega) (Ev.pos (by omega) (Ev.pos (by omega) ?_))
    rw [wid (by omega)]
    exact ih (i + 1) (by omega)
theorem eqTempoMark (l : List S49) (hl : l.length ≤ 17592186044416) : Ev (fun k => laws_eqTempoMarkS.f k l l) true := by
  unfold laws_eqTempoMarkS.f
  exact Ev.pos rfl (eqTempoMark_l0 l hl l.length 0 (by omega))
def tmQ (l : List S49) (j : Nat) : Bool := decide (0 ≤ (l.getD j z49).f0 ∧ (l.getD j z49).f0 ≤ 2000) && (decide (10 ≤ (l.getD j z49).f1 ∧ (l.getD j z49).f1 ≤ 600) && (decide (j = 0) || decide ((l.getD (j - 1) z49).f0 < (l.getD j z49).f0)))
def tempoB (l : List S49) : Bool := allF (tmQ l) l.length 0 && (decide (1 ≤ l.length ∧ l.length ≤ 16) && decide ((l.getD 0 z49).f0 = 0))
theorem rdTM (l : List S49) (i : Nat) : rd_T49 l (i : Int) = l.getD i z49 := by
  unfold rd_T49; rw [Int.toNat_natCast]
theorem sTempo_l0 (l : List S49) (hl : l.length ≤ 17592186044416) (d : Nat) : ∀ (i : Nat), i + d = l.length → Ev (fun k => spec_l22Ok.l0 k l i) (allF (tmQ l) l.length i && (decide (1 ≤ l.length ∧ l.length ≤ 16) && decide ((l.getD 0 z49).f0 = 0))) := by
  induction d with
  | zero =>
    intro i h1
    refine Ev.shift ?_
    simp only [spec_l22Ok.l0]
    refine Ev.neg (by omega) ?_
    rw [allF_end _ (by omega), Bool.true_and]
    by_cases h2 : 1 ≤ l.length
    · refine Ev.pos (by omega) ?_
      by_cases h3 : l.length ≤ 16
      · refine Ev.pos (by omega) (Ev.pos (by omega) (Ev.some ?_))
        have e := rdTM l 0
        simp only [Int.natCast_zero] at e
        rw [e]
        simp only [h2, h3, and_self, decide_true, Bool.true_and]
        rfl
      · refine Ev.neg (by omega) (Ev.some ?_)
        simp [h3]
    · refine Ev.neg (by omega) (Ev.some ?_)
      simp [h2]
  | succ d ih =>
    intro i h1
    refine Ev.shift ?_
    simp only [spec_l22Ok.l0, spec_l22Beat.f, spec_l22Tempo.f, in_eq, Option.bind_some]
    refine Ev.pos (by omega) (Ev.pos (by omega) ?_)
    rw [rdTM]
    by_cases hb : 0 ≤ (l.getD i z49).f0 ∧ (l.getD i z49).f0 ≤ 2000
    · refine Ev.pos (decide_eq_true hb) ?_
      by_cases ht : 10 ≤ (l.getD i z49).f1 ∧ (l.getD i z49).f1 ≤ 600
      · refine Ev.pos (decide_eq_true ht) ?_
        cases i with
        | zero =>
          refine Ev.neg (by omega) ?_
          rw [wid (by omega), allF_yes _ (by simp only [tmQ, decide_eq_true hb, decide_eq_true ht]; rfl)]
          exact ih 1 (by omega)
        | succ i =>
          refine Ev.pos (by omega) ?_
          have e1 : wrap64 (((i + 1 : Nat) : Int) - 1) = (i : Int) := by rw [wid (by omega)]; omega
          rw [e1, rdTM]
          refine Ev.pos (by omega) (Ev.pos (by omega) ?_)
          by_cases hc : (l.getD i z49).f0 < (l.getD (i + 1) z49).f0
          · refine Ev.neg (by omega) ?_
            rw [wid (by omega), allF_yes _ (by simp only [tmQ, decide_eq_true hb, decide_eq_true ht, Nat.add_sub_cancel, decide_eq_true hc]; simp)]
            exact ih (i + 2) (by omega)
          · refine Ev.pos (by omega) (Ev.some ?_)
            rw [allF_no _ (by omega) (by simp only [tmQ, Nat.add_sub_cancel, decide_eq_false hc]; simp), Bool.false_and]
      · refine Ev.neg (by simpa using ht) (Ev.some ?_)
        rw [allF_no _ (by omega) (by simp only [tmQ, decide_eq_false ht]; simp), Bool.false_and]
    · refine Ev.neg (by simpa using hb) (Ev.some ?_)
      rw [allF_no _ (by omega) (by simp only [tmQ, decide_eq_false hb]; simp), Bool.false_and]
theorem sTempo (l : List S49) (hl : l.length ≤ 17592186044416) : Ev (fun k => spec_l22Ok.f k l) (tempoB l) := by
  unfold spec_l22Ok.f tempoB
  exact sTempo_l0 l hl l.length 0 (by omega)
theorem tempoB_len {l : List S49} (h : tempoB l = true) : 1 ≤ l.length ∧ l.length ≤ 16 := by
  unfold tempoB at h; simp only [Bool.and_eq_true] at h; exact of_decide_eq_true h.2.1
theorem tempoB_zero {l : List S49} (h : tempoB l = true) : (l.getD 0 z49).f0 = 0 := by
  unfold tempoB at h; simp only [Bool.and_eq_true] at h; exact of_decide_eq_true h.2.2
theorem tempoB_get {l : List S49} (h : tempoB l = true) (j : Nat) (hj : j < l.length) : (0 ≤ (l.getD j z49).f0 ∧ (l.getD j z49).f0 ≤ 2000) ∧ 10 ≤ (l.getD j z49).f1 ∧ (l.getD j z49).f1 ≤ 600 := by
  unfold tempoB at h; simp only [Bool.and_eq_true] at h
  have := (allF_iff _).1 h.1 j hj (Nat.zero_le _)
  simp only [tmQ, Bool.and_eq_true] at this
  exact ⟨of_decide_eq_true this.1, of_decide_eq_true this.2.1⟩
theorem tempoB_lt {l : List S49} (h : tempoB l = true) (j : Nat) (hj : j + 1 < l.length) : (l.getD j z49).f0 < (l.getD (j + 1) z49).f0 := by
  unfold tempoB at h; simp only [Bool.and_eq_true] at h
  have := (allF_iff _).1 h.1 (j + 1) hj (Nat.zero_le _)
  simp only [tmQ, Bool.and_eq_true, Bool.or_eq_true, Nat.add_sub_cancel] at this
  rcases this.2.2 with e | e
  · exact absurd (of_decide_eq_true e) (by omega)
  · exact of_decide_eq_true e
theorem iTempo_l0 (l : List S49) (hl : l.length ≤ 17592186044416) (h0 : (l.getD 0 z49).f0 = 0) (d : Nat) : ∀ (i : Nat), i + d = l.length → (0 < i → 0 ≤ (l.getD (i - 1) z49).f0) → Ev (fun k => impl_ValidTempo.l0 k l l l.length i) (allF (tmQ l) l.length i) := by
  induction d with
  | zero =>
    intro i h1 _
    refine Ev.shift ?_
    simp only [impl_ValidTempo.l0]
    refine Ev.neg (by omega) (Ev.some ?_)
    rw [allF_end _ (by omega)]
  | succ d ih =>
    intro i h1 hp
    refine Ev.shift ?_
    simp only [impl_ValidTempo.l0, impl_tempoOk.f, within_eq, Option.bind_some]
    refine Ev.pos (by omega) (Ev.pos (by omega) (Ev.pos (by omega) ?_))
    rw [rdTM]
    by_cases ht : 10 ≤ (l.getD i z49).f1 ∧ (l.getD i z49).f1 ≤ 600
    · refine Ev.pos (decide_eq_true ht) ?_
      by_cases hb : (l.getD i z49).f0 > 2000
      · refine Ev.pos hb (Ev.some ?_)
        rw [allF_no _ (by omega) (by simp only [tmQ, decide_eq_false (show ¬ (0 ≤ (l.getD i z49).f0 ∧ (l.getD i z49).f0 ≤ 2000) by omega)]; simp)]
      · refine Ev.neg hb ?_
        cases i with
        | zero =>
          refine Ev.neg (by omega) ?_
          rw [wid (by omega), allF_yes _ (by simp only [tmQ, decide_eq_true (show 0 ≤ (l.getD 0 z49).f0 ∧ (l.getD 0 z49).f0 ≤ 2000 by omega), decide_eq_true ht]; rfl)]
          exact ih 1 (by omega) (fun _ => by simp only [Nat.sub_self]; omega)
        | succ i =>
          refine Ev.pos (by omega) ?_
          have e1 : wrap64 (((i + 1 : Nat) : Int) - 1) = (i : Int) := by rw [wid (by omega)]; omega
          rw [e1, rdTM]
          refine Ev.pos (by omega) (Ev.pos (by omega) ?_)
          have hq := hp (by omega)
          rw [Nat.add_sub_cancel] at hq
          by_cases hc : (l.getD i z49).f0 < (l.getD (i + 1) z49).f0
          · refine Ev.neg (by omega) ?_
            rw [wid (by omega), allF_yes _ (by simp only [tmQ, decide_eq_true (show 0 ≤ (l.getD (i + 1) z49).f0 ∧ (l.getD (i + 1) z49).f0 ≤ 2000 by omega), decide_eq_true ht, Nat.add_sub_cancel, decide_eq_true hc]; simp)]
            exact ih (i + 2) (by omega) (fun _ => by show 0 ≤ (l.getD (i + 1) z49).f0; omega)
          · refine Ev.pos (by omega) (Ev.some ?_)
            rw [allF_no _ (by omega) (by simp only [tmQ, Nat.add_sub_cancel, decide_eq_false hc]; simp)]
    · refine Ev.neg (by simpa using ht) (Ev.some ?_)
      rw [allF_no _ (by omega) (by simp only [tmQ, decide_eq_false ht]; simp)]
theorem iTempo (l : List S49) (hl : l.length ≤ 17592186044416) : Ev (fun k => impl_ValidTempo.f k l) (tempoB l) := by
  unfold impl_ValidTempo.f tempoB
  by_cases h1 : (l.length : Int) < 1
  · refine Ev.pos h1 (Ev.shift ?_)
    simp only [impl_ValidTempo.j0]
    refine Ev.some ?_
    simp [show ¬ (1 ≤ l.length) by omega]
  refine Ev.neg h1 ?_
  by_cases h2 : (l.length : Int) > 16
  · refine Ev.pos h2 (Ev.shift ?_)
    simp only [impl_ValidTempo.j0]
    refine Ev.some ?_
    simp [show ¬ (l.length ≤ 16) by omega]
  refine Ev.neg h2 (Ev.pos (by omega) (Ev.shift ?_))
  simp only [impl_ValidTempo.j0]
  have e := rdTM l 0
  simp only [Int.natCast_zero] at e
  rw [e]
  by_cases h0 : (l.getD 0 z49).f0 = 0
  · refine Ev.neg (by rw [h0]; decide) ?_
    rw [decide_eq_true h0, decide_eq_true (show 1 ≤ l.length ∧ l.length ≤ 16 by omega), Bool.and_true, Bool.and_true]
    exact iTempo_l0 l hl h0 l.length 0 (by omega) (by omega)
  · refine Ev.pos (by simpa using h0) (Ev.some ?_)
    rw [decide_eq_false h0, Bool.and_false, Bool.and_false]
theorem getDsetTempoMark (l : List S49) (i j : Nat) (v : S49) (h : i < l.length) : (l.set i v).getD j z49 = if i = j then v else l.getD j z49 := by
  rw [List.getD_eq_getElem?_getD, List.getElem?_set, List.getD_eq_getElem?_getD]
  split
  · rename_i e; subst e; simp [h]
  · rfl
theorem rdMTempoMark (l : List S49) (i : Nat) : rd_T49 l (i : Int) = l.getD i z49 := by
  unfold rd_T49
  rw [Int.toNat_natCast]
theorem markTempoMark_l0 (m0 : Int) (n : Nat) (h0 : 0 ≤ m0) (h1 : m0 + 2 * n ≤ 9000000000000000000) (d : Nat) : ∀ (i : Nat) (acc : List S49), i + d = n → acc.length = n → (∀ j, j < i → acc.getD j z49 = ⟨m0 + 2 * j, m0 + 2 * j + 1⟩) → ∃ l', l'.length = n ∧ (∀ j, j < n → l'.getD j z49 = ⟨m0 + 2 * j, m0 + 2 * j + 1⟩) ∧ Ev (fun k => laws_markTempoMarkS.l0 k acc (m0 + 2 * i) i) (m0 + 2 * n, l') := by
  induction d with
  | zero =>
    intro i acc hi ha h
    obtain rfl : i = n := by omega
    refine ⟨acc, ha, h, ?_⟩
    refine Ev.shift ?_
    simp only [laws_markTempoMarkS.l0]
    exact Ev.neg (by omega) (Ev.now _)
  | succ d ih =>
    intro i acc hi ha h
    have g1 := getDsetTempoMark acc i i ⟨m0 + 2 * i, (acc.getD i z49).f1⟩ (by omega)
    rw [if_pos rfl] at g1
    have w1 : wrap64 (m0 + 2 * (i : Int) + 1) = m0 + 2 * i + 1 := wid (by omega)
    have w2 : wrap64 (m0 + 2 * (i : Int) + 1 + 1) = m0 + 2 * ((i + 1 : Nat) : Int) := by rw [wid (by omega)]; omega
    have w3 : wrap64 ((i : Int) + 1) = ((i + 1 : Nat) : Int) := by rw [wid (by omega)]; rfl
    obtain ⟨l', a1, a2, a3⟩ := ih (i + 1) (acc.set i ⟨m0 + 2 * i, m0 + 2 * i + 1⟩) (by omega) (by rw [List.length_set]; exact ha) (fun j hj => by
      rw [getDsetTempoMark acc i j _ (by omega)]
      split
      · rename_i e; rw [e]
      · exact h j (by omega))
    refine ⟨l', a1, a2, ?_⟩
    refine Ev.shift ?_
    simp only [laws_markTempoMarkS.l0]
    clear a1 a2 ih h
    have p1 : (i : Int) < (acc.length : Int) := by clear w1 w2 w3 g1; omega
    refine Ev.pos p1 (Ev.pos (Int.natCast_nonneg _) ?_)
    simp only [Option.bind_some, Int.toNat_natCast, rdMTempoMark, g1, w1, w2, w3, List.set_set]
    exact a3
theorem markTempoMark (l : List S49) (m : Int) (h0 : 0 ≤ m) (h1 : m + 2 * l.length ≤ 9000000000000000000) : ∃ l', l'.length = l.length ∧ (∀ j, j < l.length → l'.getD j z49 = ⟨m + 2 * j, m + 2 * j + 1⟩) ∧ Ev (fun k => laws_markTempoMarkS.f k l m) (m + 2 * l.length, l') := by
  obtain ⟨l', a1, a2, a3⟩ := markTempoMark_l0 m l.length h0 h1 l.length 0 l (by omega) rfl (fun j hj => by omega)
  refine ⟨l', a1, a2, ?_⟩
  have e : m + 2 * ((0 : Nat) : Int) = m := by omega
  rw [e] at a3
  exact a3
theorem heldTempoMark_l0 (m0 : Int) (n : Nat) (h0 : 0 ≤ m0) (h1 : m0 + 2 * n ≤ 9000000000000000000) (l : List S49) (hl : l.length = n) (h : ∀ j, j < n → l.getD j z49 = ⟨m0 + 2 * j, m0 + 2 * j + 1⟩) (d : Nat) : ∀ (i : Nat), i + d = n → Ev (fun k => laws_heldTempoMarkS.l0 k l (m0 + 2 * i) i) (m0 + 2 * n) := by
  induction d with
  | zero =>
    intro i hi
    obtain rfl : i = n := by omega
    refine Ev.shift ?_
    simp only [laws_heldTempoMarkS.l0]
    exact Ev.neg (by omega) (Ev.now _)
  | succ d ih =>
    intro i hi
    have g := h i (by omega)
    have r := ih (i + 1) (by omega)
    clear h ih
    have w1 : wrap64 (m0 + 2 * (i : Int) + 1) = m0 + 2 * i + 1 := wid (by omega)
    have w2 : wrap64 (m0 + 2 * (i : Int) + 1 + 1) = m0 + 2 * ((i + 1 : Nat) : Int) := by rw [wid (by omega)]; omega
    have w3 : wrap64 ((i : Int) + 1) = ((i + 1 : Nat) : Int) := by rw [wid (by omega)]; rfl
    refine Ev.shift ?_
    simp only [laws_heldTempoMarkS.l0, rdMTempoMark, g, w1, w2, w3]
    have p1 : (i : Int) < (l.length : Int) := by clear w1 w2 w3 g; omega
    exact Ev.pos p1 (Ev.pos (Int.natCast_nonneg _) (Ev.pos trivial (Ev.pos trivial r)))
theorem heldTempoMark (m : Int) (l : List S49) (h0 : 0 ≤ m) (h1 : m + 2 * l.length ≤ 9000000000000000000) (h : ∀ j, j < l.length → l.getD j z49 = ⟨m + 2 * j, m + 2 * j + 1⟩) : Ev (fun k => laws_heldTempoMarkS.f k l m) (m + 2 * l.length) := by
  have a := heldTempoMark_l0 m l.length h0 h1 l rfl h l.length 0 (by omega)
  have e : m + 2 * ((0 : Nat) : Int) = m := by omega
  rw [e] at a
  exact a
def dgs (f : Nat) (m : Nat) : List Int := match f with
  | 0 => []
  | f + 1 => if m = 0 then [] else (48 + (m % 10 : Nat) : Int) :: dgs f (m / 10)
theorem dgs_len (f : Nat) : ∀ m, (dgs f m).length ≤ f := by
  induction f with
  | zero => intro m; simp [dgs]
  | succ f ih =>
    intro m
    simp only [dgs]
    split
    · simp
    · have := ih (m / 10); simp only [List.length_cons]; omega
theorem dgs_zero (f : Nat) : dgs f 0 = [] := by cases f <;> simp [dgs]
theorem dgs_dec (f : Nat) : ∀ m, m < 10 ^ f → 0 < m → ((dgs f m).reverse.map fun n => UInt8.ofNat n.toNat) = Lib.decDigits m := by
  induction f with
  | zero => intro m h1 h2; omega
  | succ f ih =>
    intro m h1 h2
    have e : (48 + ((m % 10 : Nat) : Int)).toNat = 48 + m % 10 := by omega
    simp only [dgs, if_neg (show ¬ m = 0 by omega), List.reverse_cons, List.map_append, List.map_cons, List.map_nil, e]
    by_cases h : m < 10
    · rw [show m / 10 = 0 by omega, dgs_zero, Lib.decDigits_one h, show m % 10 = m by omega]; rfl
    · rw [ih (m / 10) (by rw [Nat.pow_succ] at h1; omega) (by omega)]
      conv => rhs; rw [Lib.decDigits, dif_neg h]
def dec (n : Int) : ByteArray := ⟨(Lib.itoa n).toArray⟩
theorem iDec (n : Int) (h : 0 ≤ n ∧ n ≤ 9000000000000000000) : impl_Decimal.f n = some (dec n) := by
  unfold impl_Decimal.f strconv_FormatInt.f
  rw [if_pos ⟨rfl, by omega, by omega⟩]; rfl
theorem dec_size (n : Int) (h : 0 ≤ n ∧ n ≤ 9000000000000000000) : (dec n).size ≤ 20 := by
  obtain ⟨m, rfl⟩ := Int.eq_ofNat_of_zero_le h.1
  have e : (dec (m : Int)).size = (Lib.decDigits m).length := by
    unfold dec Lib.itoa
    rw [if_neg (by omega), Int.toNat_natCast]; rfl
  rw [e]
  by_cases h0 : m = 0
  · subst h0; rw [Lib.decDigits_one (by omega)]; simp
  · rw [← dgs_dec 19 m (by omega) (by omega), List.length_map, List.length_reverse]
    have := dgs_len 19 m; omega
def item (y : S49) : ByteArray := dec y.f0 ++ (⟨#[58]⟩ : ByteArray) ++ dec y.f1
def textOf (l : List S49) : ByteArray := ⟨(Lib.join ((l.map item).map (·.data.toList)) [32]).toArray⟩
theorem textOf_nil : textOf [] = (⟨#[]⟩ : ByteArray) := rfl
theorem textOf_one (y : S49) : textOf [y] = item y := by
  unfold textOf
  rw [List.map_cons, List.map_nil, List.map_cons, List.map_nil, Lib.join_one]
theorem textOf_snoc (l : List S49) (hl : l ≠ []) (y : S49) : textOf (l ++ [y]) = textOf l ++ (⟨#[32]⟩ : ByteArray) ++ item y := by
  cases l with
  | nil => exact absurd rfl hl
  | cons x r =>
    unfold textOf
    rw [List.cons_append, List.map_cons, List.map_cons, List.map_cons, List.map_cons, Lib.join_cons, Lib.join_cons]
    apply ByteArray.ext
    rw [ByteArray.data_append, ByteArray.data_append]
    apply Array.ext'
    simp [Lib.joinTail]
def okTM (y : S49) : Prop := (0 ≤ y.f0 ∧ y.f0 ≤ 9000000000000000000) ∧ 0 ≤ y.f1 ∧ y.f1 ≤ 9000000000000000000
theorem item_size (y : S49) (h : okTM y) : (item y).size ≤ 41 := by
  unfold item
  have h1 := dec_size y.f0 h.1
  have h2 := dec_size y.f1 h.2
  rw [ByteArray.size_append, ByteArray.size_append]
  have : (⟨#[58]⟩ : ByteArray).size = 1 := rfl
  omega
theorem take_snoc (l : List S49) (i : Nat) (h : i < l.length) : l.take (i + 1) = l.take i ++ [l.getD i z49] := by
  rw [List.take_add_one, List.getElem?_eq_getElem h, List.getD_eq_getElem?_getD, List.getElem?_eq_getElem h]; rfl
theorem txt_size (l : List S49) (h : ∀ j, j < l.length → okTM (l.getD j z49)) : ∀ i, i ≤ l.length → (textOf (l.take i)).size ≤ 42 * i := by
  intro i
  induction i with
  | zero => intro _; rw [List.take_zero, textOf_nil]; exact Nat.le_refl _
  | succ i ih =>
    intro hi
    have h1 := ih (by omega)
    have h2 := item_size _ (h i (by omega))
    rw [take_snoc l i (by omega)]
    by_cases h0 : i = 0
    · subst h0
      rw [List.take_zero, List.nil_append, textOf_one]; omega
    · rw [textOf_snoc _ (by intro e; have := congrArg List.length e; rw [List.length_take, List.length_nil] at this; omega), ByteArray.size_append, ByteArray.size_append]
      have : (⟨#[32]⟩ : ByteArray).size = 1 := rfl
      omega
theorem iText_l0 (l : List S49) (hl : l.length ≤ 1000) (h : ∀ j, j < l.length → okTM (l.getD j z49)) (d : Nat) : ∀ i : Nat, i + d = l.length → Ev (fun k => impl_TempoText.l0 k ((l.take i).map item) l (l.length : Int) (i : Int)) (textOf l) := by
  induction d with
  | zero =>
    intro i hi
    have hs := txt_size l h l.length (Nat.le_refl _)
    rw [List.take_of_length_le (Nat.le_refl _)] at hs
    have hj : (Lib.join ((l.map item).map (·.data.toList)) [32]).length ≤ 42 * l.length := hs
    refine Ev.shift ?_
    simp only [impl_TempoText.l0]
    rw [List.take_of_length_le (by omega)]
    refine Ev.neg (by omega) ?_
    unfold strings_Join.f
    rw [if_pos ⟨by rw [List.length_map]; omega, by show (Lib.join ((l.map item).map (·.data.toList)) [32]).length ≤ _; omega⟩]
    exact Ev.now _
  | succ d ih =>
    intro i hi
    have w1 : wrap64 ((i : Int) + 1) = ((i + 1 : Nat) : Int) := by rw [wid (by omega)]; rfl
    have hy := h i (by omega)
    have d0 := iDec _ hy.1
    have d1 := iDec _ hy.2
    have z0 := dec_size _ hy.1
    have z1 := dec_size _ hy.2
    have e58 : (⟨#[58]⟩ : ByteArray).size = 1 := rfl
    have ih' := ih (i + 1) (by omega)
    rw [take_snoc l i (by omega), List.map_append] at ih'
    refine Ev.shift ?_
    simp only [impl_TempoText.l0, rdTM, w1, d0, d1, Option.bind_some]
    clear w1
    exact Ev.pos (by omega) (Ev.pos (by omega) (Ev.pos (by omega) (Ev.pos (by omega) (Ev.pos (by rw [ByteArray.size_append]; omega) (Ev.pos (by rw [List.length_map, List.length_take]; omega) ih')))))
def digB (c : UInt8) : Bool := decide (48 ≤ c.toNat ∧ c.toNat ≤ 57)
def valD (acc : Nat) : List UInt8 → Nat
  | [] => acc
  | c :: r => valD (acc * 10 + (c.toNat - 48)) r
theorem digB_t {c : UInt8} (h : digB c = true) : 48 ≤ c.toNat ∧ c.toNat ≤ 57 := of_decide_eq_true h
theorem valD_snoc (t : List UInt8) (c : UInt8) : ∀ acc, valD acc (t ++ [c]) = valD acc t * 10 + (c.toNat - 48) := by
  induction t with
  | nil => intro acc; rfl
  | cons x r ih => intro acc; exact ih _
theorem valD_ge (t : List UInt8) : ∀ acc, acc ≤ valD acc t := by
  induction t with
  | nil => intro acc; exact Nat.le_refl _
  | cons x r ih =>
    intro acc
    have h1 := ih (acc * 10 + (x.toNat - 48))
    show acc ≤ valD (acc * 10 + (x.toNat - 48)) r
    generalize x.toNat - 48 = d at h1 ⊢
    omega
theorem valD_lt (t : List UInt8) (h : t.all digB = true) : ∀ acc k, acc < 10 ^ k → valD acc t < 10 ^ (k + t.length) := by
  induction t with
  | nil => intro acc k ha; exact ha
  | cons x r ih =>
    intro acc k ha
    simp only [List.all_cons, Bool.and_eq_true] at h
    have hx := digB_t h.1
    have := ih h.2 (acc * 10 + (x.toNat - 48)) (k + 1) (by rw [Nat.pow_succ]; omega)
    rw [List.length_cons, show k + (r.length + 1) = k + 1 + r.length by omega]
    exact this
theorem parseM_ok (M : Nat) (t : List UInt8) : ∀ acc u, Lib.parseUintM M acc t = .ok u → t.all digB = true ∧ u = valD acc t := by
  induction t with
  | nil =>
    intro acc u h
    simp only [Lib.parseUintM] at h
    exact ⟨rfl, (Lib.NumEnd.ok.inj h).symm⟩
  | cons x r ih =>
    intro acc u h
    simp only [Lib.parseUintM] at h
    split at h
    · rename_i hd
      split at h
      · cases h
      · split at h
        · cases h
        · obtain ⟨a, b⟩ := ih _ _ h
          exact ⟨by simp only [List.all_cons, Bool.and_eq_true]; exact ⟨decide_eq_true hd, a⟩, b⟩
    · cases h
theorem parseM_of (M : Nat) (t : List UInt8) (h : t.all digB = true) : ∀ acc, valD acc t ≤ M → valD acc t ≤ 1000000000000000000 → Lib.parseUintM M acc t = .ok (valD acc t) := by
  induction t with
  | nil => intro acc _ _; rfl
  | cons x r ih =>
    intro acc h1 h2
    simp only [List.all_cons, Bool.and_eq_true] at h
    have hx := digB_t h.1
    have hg := valD_ge r (acc * 10 + (x.toNat - 48))
    have h1' : valD (acc * 10 + (x.toNat - 48)) r ≤ M := h1
    have h2' : valD (acc * 10 + (x.toNat - 48)) r ≤ 1000000000000000000 := h2
    have e := ih h.2 _ h1' h2'
    show (if 48 ≤ x.toNat ∧ x.toNat ≤ 57 then _ else _) = Lib.NumEnd.ok (valD (acc * 10 + (x.toNat - 48)) r)
    rw [if_pos hx]
    generalize x.toNat - 48 = d at hg h1' h2' e ⊢
    clear h1 h2
    rw [if_neg (by omega), if_neg (by omega)]
    exact e
theorem dec_len (k : Nat) : ∀ n, n < 10 ^ (k + 1) → (Lib.decDigits n).length ≤ k + 1 := by
  induction k with
  | zero => intro n h; rw [Lib.decDigits_one (by omega)]; exact Nat.le_refl _
  | succ k ih =>
    intro n h
    by_cases c : n < 10
    · rw [Lib.decDigits_one c]; simp
    · rw [Lib.decDigits, dif_neg c, List.length_append]
      have := ih (n / 10) (by rw [Nat.pow_succ] at h; omega)
      simp only [List.length_cons, List.length_nil]
      omega
theorem dig_back {c : UInt8} (h : digB c = true) : UInt8.ofNat (48 + (c.toNat - 48)) = c := by
  have := digB_t h
  rw [show 48 + (c.toNat - 48) = c.toNat by omega]
  exact UInt8.ofNat_toNat
theorem valD_pos (t : List UInt8) (c : UInt8) (h : (c :: t).all digB = true) (hc : c.toNat ≠ 48) : 1 ≤ valD 0 (c :: t) := by
  simp only [List.all_cons, Bool.and_eq_true] at h
  have hx := digB_t h.1
  have := valD_ge t (0 * 10 + (c.toNat - 48))
  show 1 ≤ valD (0 * 10 + (c.toNat - 48)) t
  omega
/-- The numeral of what digits spell is these digits, where the first one is no zero. -/
theorem dec_val (c : UInt8) (hc : c.toNat ≠ 48) (n : Nat) : ∀ t : List UInt8, t.length = n → (c :: t).all digB = true → Lib.decDigits (valD 0 (c :: t)) = c :: t := by
  induction n with
  | zero =>
    intro t ht h
    obtain rfl := List.length_eq_zero_iff.1 ht
    simp only [List.all_cons, Bool.and_eq_true] at h
    have hx := digB_t h.1
    show Lib.decDigits (0 * 10 + (c.toNat - 48)) = [c]
    rw [Lib.decDigits_one (by omega), show 48 + (0 * 10 + (c.toNat - 48)) = 48 + (c.toNat - 48) by omega, dig_back h.1]
  | succ n ih =>
    intro t ht h
    have hne : t ≠ [] := by intro e; rw [e] at ht; simp at ht
    obtain ⟨t', x, rfl⟩ : ∃ t' x, t = t' ++ [x] := ⟨t.dropLast, t.getLast hne, (List.dropLast_concat_getLast hne).symm⟩
    have h' : (c :: t').all digB = true := by
      simp only [List.all_cons, List.all_append, Bool.and_eq_true] at h ⊢
      exact ⟨h.1, h.2.1⟩
    have hx : digB x = true := by
      simp only [List.all_cons, List.all_append, Bool.and_eq_true, List.all_nil, Bool.and_true] at h
      exact h.2.2
    have ih' := ih t' (by simpa using ht) h'
    have hp := valD_pos t' c h' hc
    have e : valD 0 (c :: (t' ++ [x])) = valD 0 (c :: t') * 10 + (x.toNat - 48) := valD_snoc (c :: t') x 0
    have hd := digB_t hx
    rw [e, Lib.decDigits, dif_neg (by omega), show (valD 0 (c :: t') * 10 + (x.toNat - 48)) / 10 = valD 0 (c :: t') by omega, show (valD 0 (c :: t') * 10 + (x.toNat - 48)) % 10 = x.toNat - 48 by omega, ih', dig_back hx]
    rfl
theorem dec_zero (c : UInt8) (hc : c.toNat = 48) (t : List UInt8) (h : (c :: t).all digB = true) : Lib.decDigits (valD 0 (c :: t)) = c :: t ↔ t = [] := by
  constructor
  · intro e
    cases t with
    | nil => rfl
    | cons x r =>
      simp only [List.all_cons, Bool.and_eq_true] at h
      have e1 : valD 0 (c :: x :: r) = valD 0 (x :: r) := by
        show valD (0 * 10 + (c.toNat - 48)) (x :: r) = _
        rw [hc]
      have hv := valD_lt (x :: r) (by simp only [List.all_cons, Bool.and_eq_true]; exact h.2) 0 0 (by decide)
      have hl := dec_len r.length (valD 0 (x :: r)) (by simpa using hv)
      rw [← e1, e] at hl
      simp only [List.length_cons] at hl
      omega
  · rintro rfl
    show Lib.decDigits (0 * 10 + (c.toNat - 48)) = [c]
    rw [hc, Lib.decDigits_one (by omega)]
    have : c = UInt8.ofNat 48 := by rw [← hc]; exact UInt8.ofNat_toNat.symm
    rw [this]
theorem dec_head (n : Nat) : ∀ c, c ∈ Lib.decDigits n → 48 ≤ c.toNat ∧ c.toNat ≤ 57 := by
  induction n using Nat.strongRecOn with
  | ind n ih =>
    intro c hc
    by_cases h : n < 10
    · rw [Lib.decDigits_one h] at hc
      obtain rfl := List.mem_singleton.1 hc
      rw [UInt8.toNat_ofNat', Nat.mod_eq_of_lt (by omega)]
      omega
    · rw [Lib.decDigits, dif_neg h] at hc
      rcases List.mem_append.1 hc with h1 | h1
      · exact ih (n / 10) (by omega) c h1
      · obtain rfl := List.mem_singleton.1 h1
        rw [UInt8.toNat_ofNat', Nat.mod_eq_of_lt (by omega)]
        omega
/-- The digits of a numeral, behind its sign. -/
def tailD (l : List UInt8) : List UInt8 := match l with
  | [] => []
  | c :: r => if c.toNat = 45 then r else c :: r
def negD (l : List UInt8) : Bool := match l with
  | [] => false
  | c :: _ => decide (c.toNat = 45)
def okNum (l : List UInt8) : Bool := !(tailD l).isEmpty && decide ((tailD l).length ≤ 18) && (tailD l).all digB && !(decide (((tailD l).headD 0).toNat = 48) && decide (1 < l.length))
theorem okNum_iff (l : List UInt8) : okNum l = true ↔ tailD l ≠ [] ∧ (tailD l).length ≤ 18 ∧ (tailD l).all digB = true ∧ ¬ (((tailD l).headD 0).toNat = 48 ∧ 1 < l.length) := by
  unfold okNum
  simp only [Bool.and_eq_true, Bool.not_eq_true', Bool.and_eq_false_iff, decide_eq_true_eq, decide_eq_false_iff_not, List.isEmpty_eq_false_iff]
  constructor
  · rintro ⟨⟨⟨a, b⟩, c⟩, d⟩
    exact ⟨a, b, c, fun q => d.elim (fun z => z q.1) (fun z => z q.2)⟩
  · rintro ⟨a, b, c, d⟩
    refine ⟨⟨⟨a, b⟩, c⟩, ?_⟩
    by_cases h : ((tailD l).headD 0).toNat = 48
    · exact .inr (fun q => d ⟨h, q⟩)
    · exact .inl h
def numOf (l : List UInt8) : Int × Bool := if okNum l = true then (if negD l = true then -((valD 0 (tailD l) : Nat) : Int) else ((valD 0 (tailD l) : Nat) : Int), true) else (0, false)
theorem ba_ext {a b : ByteArray} (h : a.data.toList = b.data.toList) : a = b := by apply ByteArray.ext; apply Array.ext'; exact h
theorem pow18 (t : List UInt8) (h : t.all digB = true) (hl : t.length ≤ 18) : valD 0 t < 1000000000000000000 := by
  have := valD_lt t h 0 0 (by decide)
  rw [Nat.zero_add] at this
  exact Nat.lt_of_lt_of_le this (Nat.pow_le_pow_right (by decide) hl)
theorem itoa_ne (c : UInt8) (r : List UInt8) (h1 : ¬ c.toNat = 45) (h2 : ¬ (48 ≤ c.toNat ∧ c.toNat ≤ 57)) (v : Int) : ¬ Lib.itoa v = c :: r := by
  intro h
  by_cases hv : v < 0
  · obtain ⟨u, hu⟩ := Int.eq_ofNat_of_zero_le (show 0 ≤ -v by omega)
    rw [show v = -(u : Int) by omega, Lib.itoa_neg u (by omega)] at h
    have := (List.cons.inj h).1
    exact h1 (by rw [← this]; rfl)
  · obtain ⟨u, hu⟩ := Int.eq_ofNat_of_zero_le (show 0 ≤ v by omega)
    rw [hu, Lib.itoa_nonneg u] at h
    have hh := dec_head u c (by rw [h]; simp)
    exact h2 hh
theorem numOf_bad {l : List UInt8} (h : ¬ (tailD l ≠ [] ∧ (tailD l).length ≤ 18 ∧ (tailD l).all digB = true ∧ ¬ (((tailD l).headD 0).toNat = 48 ∧ 1 < l.length))) : numOf l = (0, false) := by
  unfold numOf
  rw [if_neg (fun q => h ((okNum_iff l).1 q))]
theorem numOf_good {l : List UInt8} (h : tailD l ≠ [] ∧ (tailD l).length ≤ 18 ∧ (tailD l).all digB = true ∧ ¬ (((tailD l).headD 0).toNat = 48 ∧ 1 < l.length)) : numOf l = (if negD l = true then -((valD 0 (tailD l) : Nat) : Int) else ((valD 0 (tailD l) : Nat) : Int), true) := by
  unfold numOf
  rw [if_pos ((okNum_iff l).2 h)]
/-- What ReadDecimal tells, by lists. -/
def rdL (l : List UInt8) : Int × Bool := match Lib.parseIntB 64 l with
  | .ok v => if (Lib.trimPrefix l [45]).length ≤ 18 then (if Lib.itoa v = l then (v, true) else (0, false)) else (0, false)
  | _ => (0, false)
theorem rdL_ok {l : List UInt8} {v : Int} (h : Lib.parseIntB 64 l = .ok v) : rdL l = if (Lib.trimPrefix l [45]).length ≤ 18 then (if Lib.itoa v = l then (v, true) else (0, false)) else (0, false) := by
  unfold rdL; rw [h]
theorem rdL_no {l : List UInt8} (h : ∀ v, Lib.parseIntB 64 l ≠ .ok v) : rdL l = (0, false) := by
  unfold rdL
  cases hp : Lib.parseIntB 64 l with
  | ok v => exact absurd hp (h v)
  | «syntax» => rfl
  | range => rfl
theorem rdL_minus (r : List UInt8) : rdL (45 :: r) = numOf (45 :: r) := by
  have p63 : (2 : Nat) ^ (64 - 1) = 9223372036854775808 := by decide
  have p64 : (2 : Nat) ^ 64 - 1 = 18446744073709551615 := by decide
  have tl : tailD (45 :: r) = r := rfl
  have ng : negD (45 :: r) = true := rfl
  have tp : Lib.trimPrefix (45 :: r) [45] = r := by simp [Lib.trimPrefix, Lib.hasPrefix]
  have pe := Lib.parseIntB_minus 64 r
  rw [p63] at pe
  by_cases hr : r = []
  · subst hr
    rw [numOf_bad (fun q => q.1 tl), rdL_no (fun v => by rw [pe]; simp [Lib.parseUintB, Lib.signedC])]
  have pu : Lib.parseUintB 64 r = Lib.parseUintM 18446744073709551615 0 r := by unfold Lib.parseUintB; rw [if_neg hr, p64]
  rw [pu] at pe
  by_cases hd : r.all digB = true
  · by_cases h18 : r.length ≤ 18
    · have hv := pow18 _ hd h18
      rw [parseM_of _ _ hd 0 (by omega) (by omega)] at pe
      have pe' : Lib.parseIntB 64 (45 :: r) = .ok (-((valD 0 r : Nat) : Int)) := by
        rw [pe]; simp only [Lib.signedC]; rw [if_neg (by omega)]
      rw [rdL_ok pe', tp, if_pos h18]
      obtain ⟨x, q, rfl⟩ : ∃ x q, r = x :: q := List.exists_cons_of_ne_nil hr
      by_cases h48 : x.toNat = 48
      · rw [numOf_bad (l := 45 :: x :: q) (fun z => z.2.2.2 ⟨h48, by simp⟩), if_neg]
        intro h
        by_cases hz : valD 0 (x :: q) = 0
        · rw [hz, show (-((0 : Nat) : Int)) = ((0 : Nat) : Int) by omega, Lib.itoa_nonneg 0] at h
          exact absurd (dec_head 0 45 (by rw [h]; simp)) (by decide)
        · rw [Lib.itoa_neg _ (by omega)] at h
          have h3 := (dec_zero x h48 q hd).1 (List.cons.inj h).2
          subst h3
          apply hz
          show 0 * 10 + (x.toNat - 48) = 0
          rw [h48]
      · have hp := valD_pos q x hd h48
        rw [numOf_good (l := 45 :: x :: q) ⟨by rw [tl]; simp, by rw [tl]; exact h18, by rw [tl]; exact hd, fun z => h48 z.1⟩, Lib.itoa_neg _ hp, dec_val x h48 q.length q rfl hd, if_pos rfl, ng, if_pos rfl, tl]
    · rw [numOf_bad (fun z => h18 (by have := z.2.1; rwa [tl] at this))]
      cases hp : Lib.parseIntB 64 (45 :: r) with
      | ok v => rw [rdL_ok hp, tp, if_neg h18]
      | «syntax» => exact rdL_no (fun v => by rw [hp]; simp)
      | range => exact rdL_no (fun v => by rw [hp]; simp)
  · rw [numOf_bad (fun z => hd (by have := z.2.2.1; rwa [tl] at this)), rdL_no]
    intro v
    rw [pe]
    cases hu : Lib.parseUintM 18446744073709551615 0 r with
    | ok u => exact absurd (parseM_ok _ _ _ _ hu).1 hd
    | «syntax» => simp [Lib.signedC]
    | range => simp [Lib.signedC]
theorem rdL_plain (c : UInt8) (r : List UInt8) (c45 : ¬ c.toNat = 45) : rdL (c :: r) = numOf (c :: r) := by
  have p63 : (2 : Nat) ^ (64 - 1) = 9223372036854775808 := by decide
  have p64 : (2 : Nat) ^ 64 - 1 = 18446744073709551615 := by decide
  have tl : tailD (c :: r) = c :: r := by simp only [tailD]; rw [if_neg c45]
  have ng : negD (c :: r) = false := decide_eq_false c45
  have tp : Lib.trimPrefix (c :: r) [45] = c :: r := by
    have : Lib.hasPrefix (c :: r) [45] = false := by
      simp only [Lib.hasPrefix, List.isPrefixOf, Bool.and_true]
      exact beq_eq_false_iff_ne.2 (fun h => c45 (by rw [← h]; rfl))
    unfold Lib.trimPrefix
    rw [this]; rfl
  by_cases c43 : c.toNat = 43
  · have hnd : ¬ (c :: r).all digB = true := by
      rw [List.all_cons, show digB c = false from decide_eq_false (by rw [c43]; omega), Bool.false_and]
      decide
    rw [numOf_bad (fun z => hnd (by have := z.2.2.1; rwa [tl] at this))]
    cases hp : Lib.parseIntB 64 (c :: r) with
    | ok v =>
      rw [rdL_ok hp, if_neg (itoa_ne c r c45 (by rw [c43]; omega) v)]
      split <;> rfl
    | «syntax» => exact rdL_no (fun v => by rw [hp]; simp)
    | range => exact rdL_no (fun v => by rw [hp]; simp)
  have pe := Lib.parseIntB_plain 64 c r c43 c45
  have pu : Lib.parseUintB 64 (c :: r) = Lib.parseUintM 18446744073709551615 0 (c :: r) := by unfold Lib.parseUintB; rw [if_neg (by simp), p64]
  rw [p63, pu] at pe
  by_cases hd : (c :: r).all digB = true
  · by_cases h18 : (c :: r).length ≤ 18
    · have hv := pow18 _ hd h18
      rw [parseM_of _ _ hd 0 (by omega) (by omega)] at pe
      have pe' : Lib.parseIntB 64 (c :: r) = .ok ((valD 0 (c :: r) : Nat) : Int) := by
        rw [pe]; simp only [Lib.signlessC]; rw [if_neg (by omega)]
      rw [rdL_ok pe', tp, if_pos h18, Lib.itoa_nonneg]
      by_cases hz : c.toNat = 48 ∧ r ≠ []
      · have hlen : 1 < (c :: r).length := by
          obtain ⟨y, z, e⟩ := List.exists_cons_of_ne_nil hz.2
          rw [e]; simp
        rw [numOf_bad (fun q => q.2.2.2 ⟨by rw [tl]; exact hz.1, hlen⟩), if_neg (fun h => hz.2 ((dec_zero c hz.1 r hd).1 h))]
      · have hdec : Lib.decDigits (valD 0 (c :: r)) = c :: r := by
          by_cases h48 : c.toNat = 48
          · exact (dec_zero c h48 r hd).2 (by
              by_cases hr : r = []
              · exact hr
              · exact absurd ⟨h48, hr⟩ hz)
          · exact dec_val c h48 r.length r rfl hd
        rw [hdec, if_pos rfl, numOf_good ⟨by rw [tl]; simp, by rw [tl]; exact h18, by rw [tl]; exact hd, fun q => hz ⟨by have := q.1; rwa [tl] at this, fun e => by have := q.2; rw [e] at this; simp at this⟩⟩, ng, if_neg (by decide), tl]
    · rw [numOf_bad (fun z => h18 (by have := z.2.1; rwa [tl] at this))]
      cases hp : Lib.parseIntB 64 (c :: r) with
      | ok v => rw [rdL_ok hp, tp, if_neg h18]
      | «syntax» => exact rdL_no (fun v => by rw [hp]; simp)
      | range => exact rdL_no (fun v => by rw [hp]; simp)
  · rw [numOf_bad (fun z => hd (by have := z.2.2.1; rwa [tl] at this)), rdL_no]
    intro v
    rw [pe]
    cases hu : Lib.parseUintM 18446744073709551615 0 (c :: r) with
    | ok u => exact absurd (parseM_ok _ _ _ _ hu).1 hd
    | «syntax» => simp [Lib.signlessC]
    | range => simp [Lib.signlessC]
theorem rdDec_num (s : ByteArray) : rdDec s = numOf s.data.toList := by
  have e : rdDec s = rdL s.data.toList := by
    unfold rdDec rdL
    cases Lib.parseIntB 64 s.data.toList with
    | ok v =>
      simp only
      split
      · by_cases h : Lib.itoa v = s.data.toList
        · rw [if_pos h, if_pos (ba_ext h)]
        · rw [if_neg h, if_neg (fun q => h (by rw [← q]))]
      · rfl
    | «syntax» => rfl
    | range => rfl
  rw [e]
  cases hl : s.data.toList with
  | nil => rw [numOf_bad (fun q => q.1 rfl), rdL_no (fun v => by simp [Lib.parseIntB])]
  | cons c r =>
    by_cases c45 : c.toNat = 45
    · obtain rfl : c = 45 := by
        have : c = UInt8.ofNat 45 := by rw [← c45]; exact UInt8.ofNat_toNat.symm
        exact this
      exact rdL_minus r
    · exact rdL_plain c r c45
theorem bt_get (s : ByteArray) (i : Nat) (h : i < s.data.toList.length) : bt s (i : Int) = ((s.data.toList[i]).toNat : Int) := by
  have hs : i < s.size := by rw [Lib.size_eq]; exact h
  rw [← bt_at s (i : Int) (by rw [Int.toNat_natCast]; exact hs)]
  obtain ⟨⟨l⟩⟩ := s
  rfl
theorem sNum_l0 (s : ByteArray) (hs : s.size ≤ 2000000) (at_ : Int) (t : List UInt8) : ∀ (i : Nat) (acc q : Nat), s.data.toList.drop i = t → acc < 10 ^ q → q + t.length ≤ 18 → Ev (fun k => spec_l01Number.l0 k s at_ (acc : Int) (i : Int)) (if t.all digB = true then (if at_ = 1 then -((valD acc t : Nat) : Int) else ((valD acc t : Nat) : Int), true) else (0, false)) := by
  have hsz := Lib.size_eq s
  induction t with
  | nil =>
    intro i acc q hd hv hq
    have hi : s.data.toList.length ≤ i := List.drop_eq_nil_iff.1 hd
    have hp := Nat.pow_le_pow_right (n := 10) (by decide) (show q ≤ 18 from hq)
    rw [show (10 : Nat) ^ 18 = 1000000000000000000 by decide] at hp
    have w1 : wrap64 (-((acc : Nat) : Int)) = -((acc : Nat) : Int) := wid (by omega)
    refine Ev.shift ?_
    simp only [spec_l01Number.l0, w1]
    clear w1
    refine Ev.neg (by omega) ?_
    rw [if_pos (show ([] : List UInt8).all digB = true from rfl)]
    by_cases h1 : at_ = 1
    · exact Ev.same (Ev.pos h1 (Ev.now _)) (by rw [if_pos h1]; rfl)
    · exact Ev.same (Ev.neg h1 (Ev.now _)) (by rw [if_neg h1]; rfl)
  | cons c r ih =>
    intro i acc q hd hv hq
    have hi : i < s.data.toList.length := by
      by_cases h : i < s.data.toList.length
      · exact h
      · rw [List.drop_eq_nil_of_le (by omega)] at hd; cases hd
    have hc : s.data.toList[i] = c := by
      rw [List.drop_eq_getElem_cons hi] at hd
      exact (List.cons.inj hd).1
    have hr : s.data.toList.drop (i + 1) = r := by
      rw [List.drop_eq_getElem_cons hi] at hd
      exact (List.cons.inj hd).2
    have hb : bt s (i : Int) = (c.toNat : Int) := by rw [bt_get s i hi, hc]
    rw [List.length_cons] at hq
    have hp := Nat.pow_le_pow_right (n := 10) (by decide) (show q ≤ 17 by omega)
    rw [show (10 : Nat) ^ 17 = 100000000000000000 by decide] at hp
    have w1 : wrap64 ((i : Int) + 1) = ((i + 1 : Nat) : Int) := by rw [wid (by omega)]; rfl
    refine Ev.shift ?_
    simp only [spec_l01Number.l0, hb, w1, spec_l01Digit.f]
    clear w1 hb
    refine Ev.pos (by omega) (Ev.pos (by omega) ?_)
    by_cases hdg : 48 ≤ c.toNat ∧ c.toNat ≤ 57
    · have ih' := ih (i + 1) (acc * 10 + (c.toNat - 48)) (q + 1) hr (by rw [Nat.pow_succ]; omega) (by omega)
      have e1 : ((c :: r).all digB = true) = (r.all digB = true) := by rw [List.all_cons, show digB c = true from decide_eq_true hdg, Bool.true_and]
      simp only [e1]
      have ev : valD acc (c :: r) = valD (acc * 10 + (c.toNat - 48)) r := rfl
      rw [ev]
      have e2 : wrap64 (wrap64 (10 * (acc : Int)) + (((c.toNat : Nat) : Int) - 48) % 256) = ((acc * 10 + (c.toNat - 48) : Nat) : Int) := by
        generalize c.toNat = d at hdg
        rw [wid (x := 10 * (acc : Int)) (by omega), wid (by omega)]
        omega
      rw [if_pos (show ((c.toNat : Nat) : Int) ≥ 48 by omega), e2]
      simp only [Option.bind_some]
      exact Ev.pos (decide_eq_true (by omega)) ih'
    · have e1 : ¬ (c :: r).all digB = true := by rw [List.all_cons, show digB c = false from decide_eq_false hdg, Bool.false_and]; decide
      rw [if_neg e1]
      by_cases h48 : ((c.toNat : Nat) : Int) ≥ 48
      · rw [if_pos h48]
        simp only [Option.bind_some]
        exact Ev.neg (by rw [decide_eq_true_iff]; omega) (Ev.now _)
      · rw [if_neg h48]
        simp only [Option.bind_some]
        exact Ev.neg (by decide) (Ev.now _)
theorem sNum (s : ByteArray) (hs : s.size ≤ 2000000) : Ev (fun k => spec_l01Number.f k s) (numOf s.data.toList) := by
  have hsz := Lib.size_eq s
  have key : ∀ (a : Nat) (neg : Bool), tailD s.data.toList = s.data.toList.drop a → negD s.data.toList = neg → (a : Int) = (if neg = true then 1 else 0) → a ≤ s.data.toList.length → Ev (fun k => spec_l01Number.j1 k s (a : Int)) (numOf s.data.toList) := by
    intro a neg ht hn ha hle
    have hlen : (tailD s.data.toList).length = s.data.toList.length - a := by rw [ht, List.length_drop]
    have w1 : wrap64 ((s.size : Int) - a) = (s.size : Int) - a := wid (by omega)
    have bad : numOf s.data.toList = (0, false) → Ev (fun k => spec_l01Number.j2 k s (a : Int) true) (numOf s.data.toList) := by
      intro h
      rw [h]
      refine Ev.shift ?_
      simp only [spec_l01Number.j2]
      exact Ev.pos trivial (Ev.now _)
    refine Ev.shift ?_
    simp only [spec_l01Number.j1, w1]
    clear w1
    by_cases h0 : (s.size : Int) = a
    · exact Ev.pos h0 (bad (numOf_bad (fun q => q.1 (List.length_eq_zero_iff.1 (by omega)))))
    refine Ev.neg h0 ?_
    by_cases h18 : (s.size : Int) - a > 18
    · exact Ev.pos h18 (bad (numOf_bad (fun q => by have := q.2.1; omega)))
    refine Ev.neg h18 (Ev.pos (by omega) (Ev.pos (by omega) ?_))
    have hla : a < s.data.toList.length := by omega
    have hb := bt_get s a hla
    have hhd : ((tailD s.data.toList).headD 0) = s.data.toList[a] := by
      rw [ht, List.drop_eq_getElem_cons hla]; rfl
    have go : (¬ (((tailD s.data.toList).headD 0).toNat = 48 ∧ 1 < s.data.toList.length)) → Ev (fun k => spec_l01Number.j2 k s (a : Int) false) (numOf s.data.toList) := by
      intro hz
      refine Ev.shift ?_
      simp only [spec_l01Number.j2]
      refine Ev.neg (by decide) ?_
      have := sNum_l0 s hs (a : Int) (tailD s.data.toList) a 0 0 ht.symm (by decide) (by omega)
      rw [Int.ofNat_zero] at this
      refine Ev.same this ?_
      by_cases hd : (tailD s.data.toList).all digB = true
      · rw [if_pos hd, numOf_good ⟨fun e => by
          have h9 : (tailD s.data.toList).length = 0 := by rw [e]; rfl
          omega, by omega, hd, hz⟩, hn]
        cases neg with
        | true => rw [if_pos (show (a : Int) = 1 by simpa using ha)]; rfl
        | false => rw [if_neg (show ¬ (a : Int) = 1 by simp at ha; omega)]; rfl
      · rw [if_neg hd, numOf_bad (fun q => hd q.2.2.1)]
    by_cases h48 : bt s (a : Int) = 48
    · refine Ev.pos h48 ?_
      rw [hb] at h48
      by_cases h1 : (s.size : Int) > 1
      · rw [decide_eq_true h1]
        have h48' : ((tailD s.data.toList).headD 0).toNat = 48 := by rw [hhd]; omega
        exact bad (numOf_bad (fun q => q.2.2.2 ⟨h48', by omega⟩))
      · rw [decide_eq_false h1]
        exact go (fun q => by have := q.2; omega)
    · refine Ev.neg h48 (go (fun q => ?_))
      rw [hb] at h48
      have := q.1
      rw [hhd] at this
      omega
  unfold spec_l01Number.f
  cases hl : s.data.toList with
  | nil =>
    have z : s.size = 0 := by rw [hsz, hl]; rfl
    refine Ev.neg (by omega) (Ev.shift ?_)
    simp only [spec_l01Number.j0]
    have := key 0 false (by rw [hl]; rfl) (by rw [hl]; rfl) (by simp) (by omega)
    rw [hl] at this
    exact Ev.neg (by decide) this
  | cons c r =>
    have z : 0 < s.size := by rw [hsz, hl]; simp
    have hb : bt s 0 = (c.toNat : Int) := by
      have := bt_get s 0 (by rw [hl]; simp)
      rw [Int.ofNat_zero] at this
      rw [this]
      simp [hl]
    rw [hb]
    refine Ev.pos (by omega) (Ev.pos (by omega) (Ev.shift ?_))
    simp only [spec_l01Number.j0]
    by_cases c45 : c.toNat = 45
    · rw [show (((c.toNat : Nat) : Int) == 45) = true from beq_iff_eq.2 (by omega)]
      have := key 1 true (by rw [hl]; show (if c.toNat = 45 then r else c :: r) = r; rw [if_pos c45]) (by rw [hl]; exact decide_eq_true c45) (by simp) (by omega)
      rw [hl] at this
      exact Ev.pos rfl this
    · rw [show (((c.toNat : Nat) : Int) == 45) = false from beq_eq_false_iff_ne.2 (by omega)]
      have := key 0 false (by rw [hl]; show (if c.toNat = 45 then r else c :: r) = c :: r; rw [if_neg c45]) (by rw [hl]; exact decide_eq_false c45) (by simp) (by omega)
      rw [hl] at this
      exact Ev.neg (by decide) this
theorem ba_toL (s : ByteArray) : s.toList = s.data.toList := by
  obtain ⟨⟨l⟩⟩ := s
  simp
def glue (p : List UInt8) : List (List UInt8) → List (List UInt8)
  | [] => [p]
  | h :: t => (p ++ h) :: t
/-- A text in its pieces. -/
def spl (c : UInt8) : List UInt8 → List (List UInt8)
  | [] => [[]]
  | x :: r => if x = c then [] :: spl c r else glue [x] (spl c r)
theorem glue_len (p : List UInt8) (ps : List (List UInt8)) (h : ps ≠ []) : (glue p ps).length = ps.length := by
  cases ps with
  | nil => exact absurd rfl h
  | cons a t => rfl
theorem glue_ne (p : List UInt8) (ps : List (List UInt8)) : glue p ps ≠ [] := by cases ps <;> simp [glue]
theorem spl_ne (c : UInt8) (l : List UInt8) : spl c l ≠ [] := by
  cases l with
  | nil => simp [spl]
  | cons x r => simp only [spl]; split; simp; exact glue_ne _ _
theorem spl_len (c : UInt8) (l : List UInt8) : (spl c l).length ≤ l.length + 1 := by
  induction l with
  | nil => simp [spl]
  | cons x r ih =>
    simp only [spl]
    split
    · simp only [List.length_cons]; omega
    · rw [glue_len _ _ (spl_ne c r)]; simp only [List.length_cons]; omega
theorem glue_glue (p q : List UInt8) (ps : List (List UInt8)) (h : ps ≠ []) : glue p (glue q ps) = glue (p ++ q) ps := by
  cases ps with
  | nil => exact absurd rfl h
  | cons a t => simp [glue]
theorem glue_nil (ps : List (List UInt8)) (h : ps ≠ []) : glue [] ps = ps := by
  cases ps with
  | nil => exact absurd rfl h
  | cons a t => rfl
def baOf (l : List UInt8) : ByteArray := ⟨l.toArray⟩
def parts (s : ByteArray) (c : UInt8) : List ByteArray := (spl c s.data.toList).map baOf
theorem baOf_data (s : ByteArray) : baOf s.data.toList = s := ba_ext rfl
theorem bt_lt (s : ByteArray) (i : Nat) (h : i < s.size) : bt s (i : Int) = ((s.data.toList.getD i 0).toNat : Int) := by
  have h' : i < s.data.toList.length := by rw [← Lib.size_eq]; exact h
  rw [← bt_at s (i : Int) (by rw [Int.toNat_natCast]; exact h), List.getD_eq_getElem?_getD, List.getElem?_eq_getElem h']
  obtain ⟨⟨l⟩⟩ := s
  rfl
theorem sSplit_l0 (s : ByteArray) (hs : s.size ≤ 2000000) (c : UInt8) (d : Nat) : ∀ (i from_ : Nat) (acc : List ByteArray), i + d = s.size → from_ ≤ i → acc.length ≤ i → Ev (fun k => spec_l01Split.l0 k s (c.toNat : Int) acc (from_ : Int) (i : Int)) (acc ++ (glue ((s.data.toList.drop from_).take (i - from_)) (spl c (s.data.toList.drop i))).map baOf) := by
  have hsz := Lib.size_eq s
  induction d with
  | zero =>
    intro i f acc hi hf ha
    refine Ev.shift ?_
    simp only [spec_l01Split.l0]
    rw [List.drop_eq_nil_of_le (show s.data.toList.length ≤ i by omega)]
    refine Ev.neg (by omega) (Ev.pos (by omega) (Ev.pos (by omega) (Ev.pos (by omega) (Ev.some ?_))))
    simp only [spl, glue, List.append_nil, List.map_cons, List.map_nil]
    refine congrArg (fun z => some (acc ++ [z])) (ba_ext ?_)
    rw [Lib.extract_data, Int.toNat_natCast, show s.size = i by omega]
    rfl
  | succ d ih =>
    intro i f acc hi hf ha
    have hil : i < s.data.toList.length := by omega
    have w1 : wrap64 ((i : Int) + 1) = ((i + 1 : Nat) : Int) := by rw [wid (by omega)]; rfl
    have hb := bt_get s i hil
    have hdr := List.drop_eq_getElem_cons hil
    refine Ev.shift ?_
    simp only [spec_l01Split.l0, w1, hb]
    clear w1 hb
    refine Ev.pos (by omega) (Ev.pos (by omega) ?_)
    rw [hdr]
    by_cases hc : s.data.toList[i] = c
    · have e : (((s.data.toList[i]).toNat : Nat) : Int) = (c.toNat : Int) := by rw [hc]
      refine Ev.pos e (Ev.pos (by omega) (Ev.pos (by omega) (Ev.pos (by omega) (Ev.pos (by omega) ?_))))
      have := ih (i + 1) (i + 1) (acc ++ [s.extract (f : Int).toNat (i : Int).toNat]) (by omega) (Nat.le_refl _) (by rw [List.length_append, List.length_singleton]; omega)
      refine Ev.same this ?_
      rw [Nat.sub_self, List.take_zero, glue_nil _ (spl_ne c _)]
      simp only [spl]
      rw [if_pos hc]
      simp only [glue, List.append_nil, List.map_cons, List.append_assoc, List.singleton_append]
      congr 2
      apply ba_ext
      rw [Lib.extract_data, Int.toNat_natCast, Int.toNat_natCast]
      rfl
    · have e : ¬ (((s.data.toList[i]).toNat : Nat) : Int) = (c.toNat : Int) := fun h => hc (UInt8.toNat_inj.1 (by omega))
      refine Ev.neg e ?_
      have := ih (i + 1) f acc (by omega) (by omega) (by omega)
      refine Ev.same this ?_
      simp only [spl]
      rw [if_neg hc, glue_glue _ _ _ (spl_ne c _)]
      congr 3
      rw [show i + 1 - f = (i - f) + 1 by omega, List.take_add_one, List.getElem?_drop, show f + (i - f) = i by omega, List.getElem?_eq_getElem hil]
      rfl
theorem sSplit (s : ByteArray) (hs : s.size ≤ 2000000) (c : UInt8) : Ev (fun k => spec_l01Split.f k s (c.toNat : Int)) (parts s c) := by
  unfold spec_l01Split.f parts
  have := sSplit_l0 s hs c s.size 0 0 [] (by omega) (Nat.le_refl _) (Nat.zero_le _)
  rw [List.nil_append, List.drop_zero, Nat.sub_zero, List.take_zero, glue_nil _ (spl_ne c _)] at this
  exact this
theorem sK_c (c : UInt8) (k : Nat) (r : List UInt8) : Lib.splitK [c] 0 (k + 1) (c :: r) = [] :: Lib.splitK [c] 0 k r := by
  have h : Lib.index (c :: r) [c] = 0 := by rw [Lib.index_one]; simp [Lib.indexByte]
  simp only [Lib.splitK, h]
  rw [if_neg (by decide)]
  rfl
theorem sK_cons (c x : UInt8) (hx : x ≠ c) (k : Nat) (r : List UInt8) : Lib.splitK [c] 0 (k + 1) (x :: r) = glue [x] (Lib.splitK [c] 0 (k + 1) r) := by
  simp only [Lib.splitK, Lib.index_one]
  have hb : (x == c) = false := beq_eq_false_iff_ne.2 hx
  have hg := Lib.indexByte_ge r c
  by_cases h : Lib.indexByte r c = -1
  · have e : Lib.indexByte (x :: r) c = -1 := by simp [Lib.indexByte, hb, h]
    rw [e, h, if_pos (by decide), if_pos (by decide)]
    rfl
  · have hn : (Lib.indexByte r c == -1) = false := beq_eq_false_iff_ne.2 h
    have e : Lib.indexByte (x :: r) c = Lib.indexByte r c + 1 := by simp [Lib.indexByte, hb, hn]
    obtain ⟨i, hi⟩ := Int.eq_ofNat_of_zero_le (show 0 ≤ Lib.indexByte r c by omega)
    rw [e, hi, if_neg (by rw [beq_iff_eq]; omega), if_neg (by rw [beq_iff_eq]; omega), show ((i : Int) + 1).toNat = i + 1 by omega, Int.toNat_natCast]
    rfl
theorem sK_all (c : UInt8) (l : List UInt8) : ∀ k, (spl c l).length ≤ k + 1 → Lib.splitK [c] 0 k l = spl c l := by
  induction l with
  | nil =>
    intro k _
    cases k with
    | zero => rfl
    | succ k => simp [Lib.splitK, Lib.index, spl]
  | cons x r ih =>
    intro k hk
    by_cases hx : x = c
    · subst hx
      simp only [spl] at hk ⊢
      rw [if_pos trivial] at hk ⊢
      have := List.length_pos_iff.2 (spl_ne x r)
      simp only [List.length_cons] at hk
      obtain ⟨k', rfl⟩ : ∃ k', k = k' + 1 := ⟨k - 1, by omega⟩
      rw [sK_c, ih k' (by omega)]
    · simp only [spl] at hk ⊢
      rw [if_neg hx] at hk ⊢
      rw [glue_len _ _ (spl_ne c r)] at hk
      cases k with
      | zero =>
        have := ih 0 hk
        rw [← this]
        rfl
      | succ k => rw [sK_cons c x hx, ih (k + 1) hk]
theorem sK_more (c : UInt8) (l : List UInt8) : ∀ k, k + 1 < (spl c l).length → ∃ p, p ∈ Lib.splitK [c] 0 k l ∧ c ∈ p := by
  induction l with
  | nil => intro k hk; simp [spl] at hk
  | cons x r ih =>
    intro k hk
    by_cases hx : x = c
    · subst hx
      simp only [spl] at hk
      rw [if_pos trivial] at hk
      simp only [List.length_cons] at hk
      cases k with
      | zero => exact ⟨x :: r, by simp [Lib.splitK], by simp⟩
      | succ k =>
        obtain ⟨p, hp, hc⟩ := ih k (by omega)
        exact ⟨p, by rw [sK_c]; exact List.mem_cons_of_mem _ hp, hc⟩
    · simp only [spl] at hk
      rw [if_neg hx, glue_len _ _ (spl_ne c r)] at hk
      obtain ⟨p, hp, hc⟩ := ih k hk
      cases k with
      | zero =>
        have : p = r := by simpa [Lib.splitK] using hp
        subst this
        exact ⟨x :: p, by simp [Lib.splitK], List.mem_cons_of_mem _ hc⟩
      | succ k =>
        rw [sK_cons c x hx]
        generalize Lib.splitK [c] 0 (k + 1) r = ps at hp
        cases ps with
        | nil => cases hp
        | cons a t =>
          rcases List.mem_cons.1 hp with rfl | h
          · exact ⟨x :: p, by simp [glue], List.mem_cons_of_mem _ hc⟩
          · exact ⟨p, by simp [glue, h], hc⟩
theorem splitB_small (sep : ByteArray) (k : Nat) : ∀ (s p : ByteArray), p ∈ Lib.splitB sep 0 k s → p.size ≤ s.size := by
  induction k with
  | zero =>
    intro s p hp
    obtain rfl := List.mem_singleton.1 hp
    exact Nat.le_refl _
  | succ k ih =>
    intro s p hp
    unfold Lib.splitB at hp
    split at hp
    · obtain rfl := List.mem_singleton.1 hp
      exact Nat.le_refl _
    · rcases List.mem_cons.1 hp with rfl | h
      · rw [ByteArray.size_extract]; omega
      · have := ih _ p h
        rw [ByteArray.size_extract] at this
        omega
/-- Pieces of a text, one more than asked for at most. -/
theorem iSplit (s : ByteArray) (c : UInt8) (n : Nat) (hs : s.size ≤ 2000000) (h1 : 1 ≤ n) (hn : n ≤ 1000000) : ∃ P : List ByteArray, strings_SplitN.f s ⟨#[c]⟩ (n : Int) = some P ∧ P.length ≤ n ∧ (∀ p ∈ P, p.size ≤ 281474976710656) ∧ ((parts s c).length ≤ n → P = parts s c) ∧ (n < (parts s c).length → ∃ p ∈ P, c ∈ p.data.toList) := by
  have hsz := Lib.size_eq s
  refine ⟨Lib.splitB ⟨#[c]⟩ 0 (min n (s.size + 1) - 1) s, ?_, ?_, ?_, ?_, ?_⟩
  · unfold strings_SplitN.f
    rw [if_pos ⟨by omega, by show 1 ≤ 1; omega, by omega, by omega⟩, Int.toNat_natCast]
  · have := Lib.splitB_length_le ⟨#[c]⟩ 0 (min n (s.size + 1) - 1) s
    omega
  · intro p hp
    have := splitB_small ⟨#[c]⟩ (min n (s.size + 1) - 1) s p hp
    omega
  · intro h
    have hl := spl_len c s.data.toList
    have e := Lib.splitB_data ⟨#[c]⟩ 0 (min n (s.size + 1) - 1) s
    have hp : (parts s c).length = (spl c s.data.toList).length := by unfold parts; rw [List.length_map]
    have e2 : Lib.splitK [c] 0 (min n (s.size + 1) - 1) s.data.toList = spl c s.data.toList := sK_all c _ _ (by omega)
    rw [show ((⟨#[c]⟩ : ByteArray).data.toList) = [c] from rfl, e2] at e
    unfold parts
    rw [← e, List.map_map]
    exact (List.map_id'' (fun p => baOf_data p) _).symm
  · intro h
    have hl := spl_len c s.data.toList
    have e := Lib.splitB_data ⟨#[c]⟩ 0 (min n (s.size + 1) - 1) s
    have hp : (parts s c).length = (spl c s.data.toList).length := by unfold parts; rw [List.length_map]
    obtain ⟨p, hp1, hc⟩ := sK_more c s.data.toList (min n (s.size + 1) - 1) (by omega)
    rw [show ((⟨#[c]⟩ : ByteArray).data.toList) = [c] from rfl] at e
    rw [← e] at hp1
    obtain ⟨q, hq, rfl⟩ := List.mem_map.1 hp1
    exact ⟨q, hq, hc⟩
theorem numOf_mem (l : List UInt8) (c : UInt8) (hc : c ∈ l) (h1 : c.toNat ≠ 45) (h2 : digB c = false) : (numOf l).2 = false := by
  rw [numOf_bad]
  rintro ⟨_, _, h3, _⟩
  have : c ∈ tailD l := by
    cases l with
    | nil => cases hc
    | cons x r =>
      simp only [tailD]
      split
      · rename_i h45
        rcases List.mem_cons.1 hc with rfl | h
        · exact absurd h45 h1
        · exact h
      · exact hc
  have := List.all_eq_true.1 h3 c this
  rw [h2] at this
  cases this
theorem numOf_itoa {l : List UInt8} (h : (numOf l).2 = true) : Lib.itoa (numOf l).1 = l ∧ -9223372036854775808 ≤ (numOf l).1 ∧ (numOf l).1 ≤ 9223372036854775807 := by
  have e : rdL l = numOf l := by
    have := rdDec_num (baOf l)
    rw [show (baOf l).data.toList = l from rfl] at this
    rw [← this]
    unfold rdDec rdL
    rw [show (baOf l).data.toList = l from rfl]
    cases Lib.parseIntB 64 l with
    | ok v =>
      simp only
      split
      · by_cases h : Lib.itoa v = l
        · rw [if_pos h, if_pos (ba_ext h)]
        · rw [if_neg h, if_neg (fun q => h (by have := congrArg (fun z : ByteArray => z.data.toList) q; exact this))]
      · rfl
    | «syntax» => rfl
    | range => rfl
  rw [← e] at h ⊢
  unfold rdL at h ⊢
  cases hp : Lib.parseIntB 64 l with
  | ok v =>
    rw [hp] at h
    simp only at h ⊢
    have hb := Lib.parseIntB_bounds hp
    rw [show ((2 ^ (64 - 1) : Nat) : Int) = 9223372036854775808 by decide] at hb
    by_cases h1 : (Lib.trimPrefix l [45]).length ≤ 18
    · rw [if_pos h1] at h ⊢
      by_cases h2 : Lib.itoa v = l
      · rw [if_pos h2] at h ⊢
        exact ⟨h2, by show -9223372036854775808 ≤ v; omega, by show v ≤ 9223372036854775807; omega⟩
      · rw [if_neg h2] at h; cases h
    · rw [if_neg h1] at h; cases h
  | «syntax» => rw [hp] at h; cases h
  | range => rw [hp] at h; cases h
theorem rdOf_get (P : List ByteArray) (i : Nat) (h : i < P.length) : rdOf ByteArray.empty P (i : Int) = P[i] := by
  unfold rdOf
  rw [Int.toNat_natCast, List.getD_eq_getElem?_getD, List.getElem?_eq_getElem h]; rfl
theorem join_spl (c : UInt8) (l : List UInt8) : Lib.join (spl c l) [c] = l := by
  have hg : ∀ (x : UInt8) (ps : List (List UInt8)), ps ≠ [] → Lib.join (glue [x] ps) [c] = x :: Lib.join ps [c] := by
    intro x ps h
    cases ps with
    | nil => exact absurd rfl h
    | cons a t => simp only [glue]; rw [Lib.join_cons, Lib.join_cons]; rfl
  induction l with
  | nil => rfl
  | cons x r ih =>
    simp only [spl]
    by_cases hx : x = c
    · rw [if_pos hx, Lib.join_cons]
      obtain ⟨a, t, e⟩ := List.exists_cons_of_ne_nil (spl_ne c r)
      rw [e] at ih ⊢
      rw [Lib.join_cons] at ih
      rw [List.nil_append]
      unfold Lib.joinTail at ih ⊢
      rw [List.map_cons, List.flatten_cons, List.append_assoc, ih, hx]
      rfl
    · rw [if_neg hx, hg x _ (spl_ne c r), ih]
theorem parts_small (s : ByteArray) (c : UInt8) : ∀ p ∈ parts s c, p.size ≤ s.size := by
  have key : ∀ l : List UInt8, ∀ q ∈ spl c l, q.length ≤ l.length := by
    intro l
    induction l with
    | nil => intro q hq; simp [spl] at hq; rw [hq]; exact Nat.le_refl _
    | cons x r ih =>
      intro q hq
      simp only [spl] at hq
      split at hq
      · rcases List.mem_cons.1 hq with rfl | h
        · simp
        · have := ih q h; simp only [List.length_cons]; omega
      · cases hs : spl c r with
        | nil => exact absurd hs (spl_ne c r)
        | cons a t =>
          rw [hs] at hq ih
          simp only [glue] at hq
          rcases List.mem_cons.1 hq with rfl | h
          · have := ih a (by simp); simp only [List.length_cons, List.length_append, List.length_nil]; omega
          · have := ih q (by simp [h]); simp only [List.length_cons]; omega
  intro p hp
  obtain ⟨q, hq, rfl⟩ := List.mem_map.1 hp
  have := key _ q hq
  rw [Lib.size_eq s]
  exact this
def ttR (l : List S49) : ByteArray := if tempoB l = true then textOf l else (⟨#[]⟩ : ByteArray)
theorem tempo_ok {l : List S49} (h : tempoB l = true) : l.length ≤ 1000 ∧ ∀ j, j < l.length → okTM (l.getD j z49) := by
  have h1 := tempoB_len h
  refine ⟨by omega, fun j hj => ?_⟩
  have h2 := tempoB_get h j hj
  exact ⟨by omega, by omega⟩
theorem ttI (l : List S49) (hl : l.length ≤ 17592186044416) : Ev (fun k => impl_TempoText.f k l) (ttR l) := by
  unfold impl_TempoText.f ttR
  refine Ev.bind (iTempo l hl) ?_
  by_cases h : tempoB l = true
  · obtain ⟨h1, h2⟩ := tempo_ok h
    rw [if_pos h]
    refine Ev.pos h ?_
    have := iText_l0 l h1 h2 l.length 0 (by omega)
    rw [List.take_zero, List.map_nil] at this
    exact this
  · rw [if_neg h]
    exact Ev.neg h (Ev.now _)
theorem cut_nil (c : UInt8) : Lib.cut [] [c] = ([], [], false) := by
  unfold Lib.cut
  rw [if_neg (by rw [Lib.index_one]; simp [Lib.indexByte])]
theorem cut_hit (c : UInt8) (r : List UInt8) : Lib.cut (c :: r) [c] = ([], r, true) := by
  have h : Lib.index (c :: r) [c] = 0 := by rw [Lib.index_one]; simp [Lib.indexByte]
  unfold Lib.cut
  rw [h, if_pos (by decide)]
  rfl
theorem cut_miss (c x : UInt8) (hx : x ≠ c) (r : List UInt8) : Lib.cut (x :: r) [c] = (x :: (Lib.cut r [c]).1, (Lib.cut r [c]).2.1, (Lib.cut r [c]).2.2) ∨ (Lib.cut (x :: r) [c] = (x :: r, [], false) ∧ Lib.cut r [c] = (r, [], false)) := by
  have hb : (x == c) = false := beq_eq_false_iff_ne.2 hx
  have hg := Lib.indexByte_ge r c
  unfold Lib.cut
  simp only [Lib.index_one]
  by_cases h : Lib.indexByte r c = -1
  · have e : Lib.indexByte (x :: r) c = -1 := by simp [Lib.indexByte, hb, h]
    right
    rw [e, h, if_neg (by decide), if_neg (by decide)]
    exact ⟨rfl, rfl⟩
  · have hn : (Lib.indexByte r c == -1) = false := beq_eq_false_iff_ne.2 h
    have e : Lib.indexByte (x :: r) c = Lib.indexByte r c + 1 := by simp [Lib.indexByte, hb, hn]
    obtain ⟨i, hi⟩ := Int.eq_ofNat_of_zero_le (show 0 ≤ Lib.indexByte r c by omega)
    left
    rw [e, hi, if_pos (by omega), if_pos (by omega), show ((i : Int) + 1).toNat = i + 1 by omega, Int.toNat_natCast]
    refine Prod.ext rfl (Prod.ext ?_ rfl)
    show List.drop (i + 1 + 1) (x :: r) = List.drop (i + 1) r
    rfl
theorem spl_cut (c : UInt8) (l : List UInt8) : ((Lib.cut l [c]).2.2 = true ∧ spl c l = (Lib.cut l [c]).1 :: spl c (Lib.cut l [c]).2.1) ∨ ((Lib.cut l [c]).2.1 = [] ∧ spl c l = [l]) := by
  induction l with
  | nil => right; rw [cut_nil]; exact ⟨rfl, rfl⟩
  | cons x r ih =>
    simp only [spl]
    by_cases hx : x = c
    · subst hx
      rw [if_pos rfl, cut_hit]; left; exact ⟨rfl, rfl⟩
    · rw [if_neg hx]
      rcases cut_miss c x hx r with e | ⟨e1, e2⟩
      · rw [e]
        rcases ih with ⟨h1, h2⟩ | ⟨h1, h2⟩
        · left; refine ⟨h1, ?_⟩; rw [h2]; rfl
        · right; refine ⟨h1, ?_⟩; rw [h2]; rfl
      · rw [e1]; rw [e2] at ih
        rcases ih with ⟨h1, h2⟩ | ⟨h1, h2⟩
        · cases h1
        · right; refine ⟨rfl, ?_⟩; rw [h2]; rfl
theorem spl_one (c : UInt8) (m : List UInt8) (h : c ∉ m) : spl c m = [m] := by
  induction m with
  | nil => rfl
  | cons x r ih =>
    simp only [spl]
    rw [if_neg (fun e => h (by rw [e]; exact List.mem_cons_self)), ih (fun q => h (List.mem_cons_of_mem _ q))]
    rfl
theorem spl_two (c : UInt8) (m : List UInt8) (h : c ∈ m) : 2 ≤ (spl c m).length := by
  induction m with
  | nil => cases h
  | cons x r ih =>
    simp only [spl]
    by_cases hx : x = c
    · rw [if_pos hx, List.length_cons]
      have := List.length_pos_iff.2 (spl_ne c r); omega
    · rw [if_neg hx, glue_len _ _ (spl_ne c r)]
      rcases List.mem_cons.1 h with e | e
      · exact absurd e.symm hx
      · exact ih e
def cA (p : ByteArray) : List UInt8 := (Lib.cut p.data.toList [58]).1
def cB (p : ByteArray) : List UInt8 := (Lib.cut p.data.toList [58]).2.1
def mkT (p : ByteArray) : S49 := ⟨(numOf (cA p)).1, (numOf (cB p)).1⟩
def okT (p : ByteArray) : Bool := (numOf (cA p)).2 && (numOf (cB p)).2
theorem two_spl (p : ByteArray) (h : (spl 58 p.data.toList).length = 2) : spl 58 p.data.toList = [cA p, cB p] := by
  rcases spl_cut 58 p.data.toList with ⟨_, h2⟩ | ⟨_, h2⟩
  · have h3 := h
    rw [h2, List.length_cons] at h3
    rw [h2]
    by_cases hm : 58 ∈ (Lib.cut p.data.toList [58]).2.1
    · have := spl_two 58 _ hm; omega
    · rw [spl_one 58 _ hm]; rfl
  · rw [h2, List.length_singleton] at h; omega
theorem okT_spl (p : ByteArray) (h : okT p = true) : spl 58 p.data.toList = [cA p, cB p] := by
  unfold okT at h
  rw [Bool.and_eq_true] at h
  rcases spl_cut 58 p.data.toList with ⟨_, h2⟩ | ⟨h1, _⟩
  · rw [h2]
    by_cases hm : 58 ∈ (Lib.cut p.data.toList [58]).2.1
    · have := numOf_mem (cB p) 58 hm (by decide) (by decide)
      rw [this] at h; cases h.2
    · rw [spl_one 58 _ hm]; rfl
  · have h2 := h.2
    have e : cB p = [] := h1
    rw [e] at h2
    exact absurd h2 (by decide)
theorem cut_small (p : ByteArray) : (cA p).length ≤ p.size ∧ (cB p).length ≤ p.size := by
  have := Lib.size_eq p
  unfold cA cB Lib.cut
  split
  · simp only [List.length_take, List.length_drop]; omega
  · simp only [List.length_nil]; omega
def marksP (P : List ByteArray) : List S49 := P.map mkT
def okTP (P : List ByteArray) : Bool := P.all okT
def rdTm (s : ByteArray) : List S49 × Bool := if okTP (parts s 32) = true ∧ tempoB (marksP (parts s 32)) = true then (marksP (parts s 32), true) else ([], false)
theorem item_back (p : ByteArray) (h : okT p = true) : item (mkT p) = p := by
  have hs := okT_spl p h
  have hj := join_spl 58 p.data.toList
  rw [hs] at hj
  unfold okT at h
  rw [Bool.and_eq_true] at h
  have e1 := (numOf_itoa h.1).1
  have e2 := (numOf_itoa h.2).1
  apply ba_ext
  have e : (item (mkT p)).data.toList = Lib.itoa (numOf (cA p)).1 ++ [58] ++ Lib.itoa (numOf (cB p)).1 := by
    unfold item dec
    simp [mkT, ByteArray.data_append]
  rw [e, e1, e2, ← hj]
  simp [Lib.join_cons, Lib.joinTail]
theorem text_back (s : ByteArray) (h : okTP (parts s 32) = true) : textOf (marksP (parts s 32)) = s := by
  apply ba_ext
  unfold textOf
  have e : ((marksP (parts s 32)).map item).map (fun z => z.data.toList) = spl 32 s.data.toList := by
    unfold marksP parts
    rw [List.map_map, List.map_map, List.map_map]
    refine (List.map_congr_left fun p hp => ?_).trans (List.map_id _)
    have := List.all_eq_true.1 h (baOf p) (List.mem_map.2 ⟨p, hp, rfl⟩)
    exact congrArg (fun z : ByteArray => z.data.toList) (item_back _ this)
  show Lib.join _ [32] = _
  rw [e]
  exact join_spl 32 _
theorem marksP_take (P : List ByteArray) (i : Nat) (h : i < P.length) : (marksP P).take (i + 1) = (marksP P).take i ++ [mkT (P[i])] := by
  unfold marksP
  rw [List.take_add_one, List.getElem?_map, List.getElem?_eq_getElem h]; rfl
theorem okTP_drop (P : List ByteArray) (i : Nat) (h : i < P.length) : okTP (P.drop i) = (okT (P[i]) && okTP (P.drop (i + 1))) := by
  rw [List.drop_eq_getElem_cons h]; rfl
theorem sRT_l0 (P : List ByteArray) (hP : P.length ≤ 3000000) (hsz : ∀ p ∈ P, p.size ≤ 2000000) (d : Nat) : ∀ i, i + d = P.length → Ev (fun k => spec_l22Read.l0 k ((marksP P).take i) P (i : Int)) (if okTP (P.drop i) = true ∧ tempoB (marksP P) = true then (marksP P, true) else ([], false)) := by
  have hlen : (marksP P).length = P.length := by unfold marksP; rw [List.length_map]
  induction d with
  | zero =>
    intro i hi
    rw [List.drop_eq_nil_of_le (show P.length ≤ i by omega)]
    refine Ev.shift ?_
    simp only [spec_l22Read.l0]
    rw [List.take_of_length_le (by omega)]
    refine Ev.neg (by omega) (Ev.bind (sTempo _ (by omega)) ?_)
    by_cases h : tempoB (marksP P) = true
    · exact Ev.same (Ev.pos h (Ev.now _)) (by rw [if_pos ⟨rfl, h⟩])
    · exact Ev.same (Ev.neg h (Ev.now _)) (by rw [if_neg (fun q => h q.2)])
  | succ d ih =>
    intro i hi
    have hil : i < P.length := by omega
    have w1 : wrap64 ((i : Int) + 1) = ((i + 1 : Nat) : Int) := by rw [wid (by omega)]; rfl
    have hps := hsz _ (List.getElem_mem hil)
    have hsp := sSplit (P[i]) hps 58
    have hcs := cut_small (P[i])
    rw [show (((58 : UInt8).toNat : Nat) : Int) = 58 from rfl] at hsp
    have e1 := okTP_drop P i hil
    refine Ev.shift ?_
    simp only [spec_l22Read.l0, w1, rdOf_get P i hil]
    clear w1
    refine Ev.pos (by omega) (Ev.pos (by omega) (Ev.bind hsp ?_))
    have hpl : (parts (P[i]) 58).length = (spl 58 (P[i]).data.toList).length := by unfold parts; rw [List.length_map]
    by_cases h2 : (spl 58 (P[i]).data.toList).length = 2
    · have e : parts (P[i]) 58 = [baOf (cA (P[i])), baOf (cB (P[i]))] := by unfold parts; rw [two_spl _ h2]; rfl
      have n1 := sNum (baOf (cA (P[i]))) (by rw [Lib.size_eq]; show (cA (P[i])).length ≤ _; omega)
      have n2 := sNum (baOf (cB (P[i]))) (by rw [Lib.size_eq]; show (cB (P[i])).length ≤ _; omega)
      rw [show (baOf (cA (P[i]))).data.toList = cA (P[i]) from rfl] at n1
      rw [show (baOf (cB (P[i]))).data.toList = cB (P[i]) from rfl] at n2
      rw [e]
      refine Ev.pos (by simp) (Ev.pos (by simp) (Ev.bind n1 (Ev.pos (by simp) (Ev.bind n2 ?_))))
      by_cases ha : (numOf (cA (P[i]))).2 = true
      · refine Ev.pos ha ?_
        by_cases hb : (numOf (cB (P[i]))).2 = true
        · have := ih (i + 1) (by omega)
          rw [marksP_take P i hil] at this
          refine Ev.pos hb (Ev.pos (by rw [List.length_take]; omega) (Ev.same this ?_))
          rw [e1, show okT (P[i]) = true by unfold okT; rw [ha, hb]; rfl, Bool.true_and]
        · rw [if_neg (by rw [e1]; unfold okT; simp [hb])]
          exact Ev.neg hb (Ev.now _)
      · rw [if_neg (by rw [e1]; unfold okT; simp [ha])]
        exact Ev.neg ha (Ev.now _)
    · have hno : ¬ okT (P[i]) = true := fun q => h2 (by rw [okT_spl _ q]; rfl)
      rw [if_neg (by rw [e1]; simp [hno])]
      exact Ev.neg (by omega) (Ev.now _)
theorem sReadT (s : ByteArray) (hs : s.size ≤ 2000000) : Ev (fun k => spec_ReadTempo.f k s) (rdTm s) := by
  have hsp := sSplit s hs 32
  rw [show (((32 : UInt8).toNat : Nat) : Int) = 32 from rfl] at hsp
  have hl := spl_len 32 s.data.toList
  have hz := Lib.size_eq s
  have hpl : (parts s 32).length = (spl 32 s.data.toList).length := by unfold parts; rw [List.length_map]
  have := sRT_l0 (parts s 32) (by omega) (fun p hp => by have := parts_small s 32 p hp; omega) (parts s 32).length 0 (by omega)
  rw [List.take_zero, List.drop_zero] at this
  have h2 : Ev (fun k => spec_l22Read.f k s) (rdTm s) := by
    unfold spec_l22Read.f
    exact Ev.bind hsp this
  unfold spec_ReadTempo.f
  exact Ev.bind h2 (Ev.now _)
theorem splitN_small {s sep : ByteArray} {n : Int} {P : List ByteArray} (h : strings_SplitN.f s sep n = some P) : ∀ p ∈ P, p.size ≤ s.size := by
  unfold strings_SplitN.f at h
  split at h
  · obtain rfl := Option.some.inj h
    intro p hp
    exact splitB_small _ _ s p hp
  · cases h
theorem iRT_l0 (s : ByteArray) (P : List ByteArray) (hP : P.length ≤ 1000) (hsz : ∀ p ∈ P, p.size ≤ 2000000) (R : List S49 × Bool) (hfin : okTP P = true → Ev (fun k => (impl_TempoText.f k (marksP P)).bind fun t => if t.toList = s.toList then some (marksP P, true) else some (([] : List S49), false)) R) (hbad : okTP P = false → R = ([], false)) (d : Nat) : ∀ i, i + d = P.length → okTP (P.take i) = true → Ev (fun k => impl_ReadTempo.l0 k s ((marksP P).take i) P (P.length : Int) (i : Int)) R := by
  have hlen : (marksP P).length = P.length := by unfold marksP; rw [List.length_map]
  have hall : ∀ i, okTP P = (okTP (P.take i) && okTP (P.drop i)) := fun i => by
    unfold okTP
    rw [← List.all_append, List.take_append_drop]
  induction d with
  | zero =>
    intro i hi hok
    have hokP : okTP P = true := by rwa [List.take_of_length_le (by omega)] at hok
    refine Ev.shift ?_
    simp only [impl_ReadTempo.l0]
    rw [List.take_of_length_le (by omega)]
    exact Ev.neg (by omega) (hfin hokP)
  | succ d ih =>
    intro i hi hok
    have hil : i < P.length := by omega
    have w1 : wrap64 ((i : Int) + 1) = ((i + 1 : Nat) : Int) := by rw [wid (by omega)]; rfl
    have hps := hsz _ (List.getElem_mem hil)
    have hcs := cut_small (P[i])
    have hc : strings_Cut.f (P[i]) (⟨#[58]⟩ : ByteArray) = some (baOf (cA (P[i])), baOf (cB (P[i])), (Lib.cut (P[i]).data.toList [58]).2.2) := by
      unfold strings_Cut.f
      rw [if_pos (by omega)]; rfl
    have hr1 : impl_ReadDecimal.f (baOf (cA (P[i]))) = some (numOf (cA (P[i]))) := by
      unfold impl_ReadDecimal.f
      rw [if_pos (by rw [Lib.size_eq]; show (cA (P[i])).length ≤ _; omega), rdDec_num]; rfl
    have hr2 : impl_ReadDecimal.f (baOf (cB (P[i]))) = some (numOf (cB (P[i]))) := by
      unfold impl_ReadDecimal.f
      rw [if_pos (by rw [Lib.size_eq]; show (cB (P[i])).length ≤ _; omega), rdDec_num]; rfl
    refine Ev.shift ?_
    simp only [impl_ReadTempo.l0, w1, rdOf_get P i hil, hc, hr1, hr2, Option.bind_some]
    clear w1 hr1 hr2 hc
    refine Ev.pos (by omega) (Ev.pos (by omega) (Ev.pos (by omega) ?_))
    have bad : okT (P[i]) = false → R = ([], false) := fun h => hbad (by rw [hall i, okTP_drop P i hil, h, Bool.false_and, Bool.and_false])
    by_cases ha : (numOf (cA (P[i]))).2 = true
    · refine Ev.pos ha ?_
      by_cases hb : (numOf (cB (P[i]))).2 = true
      · have h2 : okT (P[i]) = true := by unfold okT; rw [ha, hb]; rfl
        have := ih (i + 1) (by omega) (by
          unfold okTP at hok ⊢
          rw [List.take_add_one, List.getElem?_eq_getElem hil, List.all_append, hok, Bool.true_and]
          simp [h2])
        rw [marksP_take P i hil] at this
        exact Ev.pos hb (Ev.pos (by rw [List.length_take]; omega) this)
      · rw [bad (by unfold okT; simp [hb])]
        exact Ev.neg hb (Ev.now _)
    · rw [bad (by unfold okT; simp [ha])]
      exact Ev.neg ha (Ev.now _)
theorem iReadT (s : ByteArray) (hs : s.size ≤ 2000000) : Ev (fun k => impl_ReadTempo.f k s) (rdTm s) := by
  unfold impl_ReadTempo.f rdTm
  obtain ⟨P, hP, hlen, _, hall, hmore⟩ := iSplit s 32 17 hs (by omega) (by omega)
  rw [show ((17 : Nat) : Int) = 17 from rfl] at hP
  have hsz := splitN_small hP
  rw [hP]
  simp only [Option.bind_some]
  have fin : ∀ R, (okTP P = true → Ev (fun k => (impl_TempoText.f k (marksP P)).bind fun t => if t.toList = s.toList then some (marksP P, true) else some (([] : List S49), false)) R) → (okTP P = false → R = ([], false)) → Ev (fun k => impl_ReadTempo.l0 k s [] P (P.length : Int) 0) R := fun R h1 h2 => by
    have := iRT_l0 s P (by omega) (fun p hp => by have := hsz p hp; omega) R h1 h2 P.length 0 (by omega) rfl
    rwa [List.take_zero] at this
  have hempty : ∀ (h : okTP (parts s 32) = true), ¬ ((⟨#[]⟩ : ByteArray).toList = s.toList) := by
    intro h e
    rw [ba_toL, ba_toL] at e
    have hn : s.data.toList = [] := e.symm
    unfold parts at h
    rw [hn] at h
    exact absurd h (by decide)
  by_cases h17 : (parts s 32).length ≤ 17
  · have eP := hall h17
    rw [eP] at fin ⊢
    have hlenN : (marksP (parts s 32)).length = (parts s 32).length := by unfold marksP; rw [List.length_map]
    refine fin _ (fun hok => ?_) (fun hno => ?_)
    · have hL := ttI (marksP (parts s 32)) (by omega)
      unfold ttR at hL
      by_cases hc : tempoB (marksP (parts s 32)) = true
      · rw [if_pos hc, text_back s hok] at hL
        refine Ev.same (Ev.bind hL (Ev.pos rfl (Ev.now _))) ?_
        rw [if_pos ⟨hok, hc⟩]
      · rw [if_neg hc] at hL
        refine Ev.same (Ev.bind hL (Ev.neg (hempty hok) (Ev.now _))) ?_
        rw [if_neg (fun q => hc q.2)]
    · rw [if_neg (fun q => by have q1 := q.1; rw [hno] at q1; cases q1)]
  · have hbad : okTP P = false := by
      obtain ⟨p, hp, hc⟩ := hmore (by omega)
      cases h : okTP P with
      | false => rfl
      | true =>
        have h2 := List.all_eq_true.1 h p hp
        have hj := join_spl 58 p.data.toList
        rw [okT_spl p h2] at hj
        rw [← hj] at hc
        have h3 : 32 ∈ cA p ∨ 32 ∈ cB p := by simpa [Lib.join_cons, Lib.joinTail] using hc
        unfold okT at h2
        rw [Bool.and_eq_true] at h2
        rcases h3 with h3 | h3
        · rw [numOf_mem _ 32 h3 (by decide) (by decide)] at h2; cases h2.1
        · rw [numOf_mem _ 32 h3 (by decide) (by decide)] at h2; cases h2.2
    have hlong : ¬ tempoB (marksP (parts s 32)) = true := fun q => by
      have := (tempoB_len q).2
      unfold marksP at this
      rw [List.length_map] at this
      omega
    rw [if_neg (fun q => hlong q.2)]
    exact fin _ (fun hok => by rw [hbad] at hok; cases hok) (fun _ => rfl)
theorem rdTm_len (s : ByteArray) : (rdTm s).1.length ≤ 16 := by
  unfold rdTm
  split
  · rename_i h
    exact (tempoB_len h.2).2
  · simp
theorem FnExactReadTempo : laws_FnExactReadTempo.Pure := by
  intro s hm
  refine Ev.rounds (g := fun k => laws_FnExactReadTempo.f k s) ?_
  unfold laws_FnExactReadTempo.f
  by_cases hl : (s.size : Int) > 1048576
  · exact Ev.pos hl (Ev.now _)
  refine Ev.neg hl ?_
  have hr0 := rdTm_len s
  have hS := sReadT s (by omega)
  have hI := iReadT s (by omega)
  generalize rdTm s = q at hr0 hS hI
  obtain ⟨r, b⟩ := q
  dsimp only at hr0
  have hr : r.length ≤ 17592186044416 := by omega
  obtain ⟨r', er, hg, hmk⟩ := markTempoMark r 1 (by omega) (by omega)
  have hhl := heldTempoMark 1 r' (by omega) (by omega) (fun j hj => hg j (by omega))
  rw [er] at hhl
  have hbb : (b != b) = false := bne_self_eq_false b
  repeat (first | exact Ev.now _ | refine Ev.bind hS ?_ | refine Ev.bind hI ?_ | refine Ev.bind (eqTempoMark _ (by assumption)) ?_ | refine Ev.bind hmk ?_ | refine Ev.bind hhl ?_ | refine Ev.pos (by with_reducible rfl) ?_ | refine Ev.pos trivial ?_ | refine Ev.neg (by omega) ?_ | refine Ev.neg (by simp; done) ?_ | refine Ev.pos (by omega) ?_ | (refine Ev.shift ?_; simp only [laws_FnExactReadTempo.j0, laws_FnExactReadTempo.j1]))

end Go.Proofs.YtpekclmaikcehaaDoor.Pure
