/- The pure statement of the law FnExactTempoText: what the Go functions compute, told by plain Lean functions, is what the law asks, for all arguments. No condition beyond the printed ones. -/
import Derived.Test.YtpekclmaikcehaaDoorPFnExactTempoTextxo
import Derived.Test.YtpekclmaikcehaaDoorXW
namespace Go.Proofs.YtpekclmaikcehaaDoor.Pure
open Go.RowKit Go.Proofs.YtpekclmaikcehaaDoor.PFnExactTempoText Go.Proofs.YtpekclmaikcehaaDoorW.PrintWords Go.Proofs.YtpekclmaikcehaaDoorW.PrintLast Go.Proofs.YtpekclmaikcehaaDoorW.PrintMore Go.Proofs.YtpekclmaikcehaaDoorXW
set_option linter.unusedVariables false
set_option linter.unusedSimpArgs false
def risQ (l : List Int) (lo hi : Int) (j : Nat) : Bool := decide (lo ≤ l.getD j 0 ∧ l.getD j 0 ≤ hi) && (decide (j = 0) || decide (l.getD (j - 1) 0 < l.getD j 0))
theorem in_eq (a b c : Int) : spec_l00In.f a b c = some (decide (b ≤ a ∧ a ≤ c)) := by
  unfold spec_l00In.f; split <;> simp_all; omega
theorem within_eq (a b c : Int) : impl_within.f a b c = some (decide (b ≤ a ∧ a ≤ c)) := by
  unfold impl_within.f; split <;> simp_all; omega
def cpTempoMark (l : List S56) : List S49 := l.map fun x => ⟨x.f0, x.f1⟩
theorem toTempoMark_l0 (l : List S56) (hl : l.length ≤ 17592186044416) (d : Nat) : ∀ (i : Nat) (acc : List S49), i + d = l.length → acc.length = l.length → acc.take i = (cpTempoMark l).take i → Ev (fun k => laws_toTempoMarkS.l0 k l acc i) (cpTempoMark l) := by
  have hc : (cpTempoMark l).length = l.length := List.length_map _
  induction d with
  | zero =>
    intro i acc h1 h2 h3
    refine Ev.shift ?_
    simp only [laws_toTempoMarkS.l0]
    refine Ev.neg (by omega) (Ev.some ?_)
    rw [List.take_of_length_le (by omega), List.take_of_length_le (by omega)] at h3
    rw [h3]
  | succ d ih =>
    intro i acc h1 h2 h3
    refine Ev.shift ?_
    simp only [laws_toTempoMarkS.l0, laws_toTempoMark.f, Option.bind_some]
    refine Ev.pos (by omega) (Ev.pos (by omega) (Ev.pos (by omega) ?_))
    rw [wid (by omega), Int.toNat_natCast]
    refine ih (i + 1) _ (by omega) (by rw [List.length_set, h2]) ?_
    rw [List.take_succ_eq_append_getElem (by rw [List.length_set]; omega), List.take_succ_eq_append_getElem (by omega), List.take_set_of_le (by omega), List.getElem_set_self, h3]
    have e : rd_T56 l (i : Int) = l[i] := by
      unfold rd_T56
      rw [Int.toNat_natCast, List.getD_eq_getElem?_getD, List.getElem?_eq_getElem (by omega), Option.getD_some]
    simp only [cpTempoMark, List.getElem_map, e]
theorem toTempoMark (l : List S56) (hl : l.length ≤ 17592186044416) : Ev (fun k => laws_toTempoMarkS.f k l) (cpTempoMark l) := by
  unfold laws_toTempoMarkS.f
  refine Ev.pos (by omega) (Ev.pos (by omega) ?_)
  rw [Int.toNat_natCast]
  exact toTempoMark_l0 l hl l.length 0 _ (by omega) (by simp) (by simp)
theorem cpTempoMark_length (l : List S56) : (cpTempoMark l).length = l.length := List.length_map _
theorem eqTempoMark_l0 (l : List S49) (hl : l.length ≤ 17592186044416) (d : Nat) : ∀ (i : Nat), i + d = l.length → Ev (fun k => laws_eqTempoMarkS.l0 k l l i) true := by
  induction d with
  | zero =>
    intro i h1
    refine Ev.shift ?_
    simp only [laws_eqTempoMarkS.l0]
    exact Ev.neg (by omega) (Ev.now _)
  | succ d ih =>
    intro i h1
    refine Ev.shift ?_
    simp only [laws_eqTempoMarkS.l0, laws_eqTempoMark.f, Option.bind_some, if_true]
    refine Ev.pos (by omega) (Ev.pos (by omega) (Ev.pos (by omega) ?_))
    rw [wid (by omega)]
    exact ih (i + 1) (by omega)
theorem eqTempoMark (l : List S49) (hl : l.length ≤ 17592186044416) : Ev (fun k => laws_eqTempoMarkS.f k l l) true := by
  unfold laws_eqTempoMarkS.f
  exact Ev.pos rfl (eqTempoMark_l0 l hl l.length 0 (by omega))
theorem szTempoMark (l : List S56) (hl : l.length ≤ maxLen) : laws_szTempoMarkS.f l 1048576 = some (if l.length ≤ 1048576 then 1048576 - (l.length : Int) else -1) := by
  unfold laws_szTempoMarkS.f
  unfold maxLen at hl
  rw [wid (by omega)]
  by_cases h : l.length ≤ 1048576
  · rw [if_neg (by omega), if_pos h]
  · rw [if_pos (by omega), if_neg h]
def tmQ (l : List S49) (j : Nat) : Bool := decide (0 ≤ (l.getD j z49).f0 ∧ (l.getD j z49).f0 ≤ 2000) && (decide (10 ≤ (l.getD j z49).f1 ∧ (l.getD j z49).f1 ≤ 600) && (decide (j = 0) || decide ((l.getD (j - 1) z49).f0 < (l.getD j z49).f0)))
def tempoB (l : List S49) : Bool := allF (tmQ l) l.length 0 && (decide (1 ≤ l.length ∧ l.length ≤ 16) && decide ((l.getD 0 z49).f0 = 0))
theorem rdTM (l : List S49) (i : Nat) : rd_T49 l (i : Int) = l.getD i z49 := by
  unfold rd_T49; rw [Int.toNat_natCast]
theorem sTempo_l0 (l : List S49) (hl : l.length ≤ 17592186044416) (d : Nat) : ∀ (i : Nat), i + d = l.length → Ev (fun k => spec_l22Ok.l0 k l i) (allF (tmQ l) l.length i && (decide (1 ≤ l.length ∧ l.length ≤ 16) && decide ((l.getD 0 z49).f0 = 0))) := by
  induction d with
  | zero =>
    intro i h1
    refine Ev.shift ?_
    simp only [spec_l22Ok.l0]
    refine Ev.neg (by omega) ?_
    rw [allF_end _ (by omega), Bool.true_and]
    by_cases h2 : 1 ≤ l.length
    · refine Ev.pos (by omega) ?_
      by_cases h3 : l.length ≤ 16
      · refine Ev.pos (by omega) (Ev.pos (by omega) (Ev.some ?_))
        have e := rdTM l 0
        simp only [Int.natCast_zero] at e
        rw [e]
        simp only [h2, h3, and_self, decide_true, Bool.true_and]
        rfl
      · refine Ev.neg (by omega) (Ev.some ?_)
        simp [h3]
    · refine Ev.neg (by omega) (Ev.some ?_)
      simp [h2]
  | succ d ih =>
    intro i h1
    refine Ev.shift ?_
    simp only [spec_l22Ok.l0, spec_l22Beat.f, spec_l22Tempo.f, in_eq, Option.bind_some]
    refine Ev.pos (by omega) (Ev.pos (by omega) ?_)
    rw [rdTM]
    by_cases hb : 0 ≤ (l.getD i z49).f0 ∧ (l.getD i z49).f0 ≤ 2000
    · refine Ev.pos (decide_eq_true hb) ?_
      by_cases ht : 10 ≤ (l.getD i z49).f1 ∧ (l.getD i z49).f1 ≤ 600
      · refine Ev.pos (decide_eq_true ht) ?_
        cases i with
        | zero =>
          refine Ev.neg (by omega) ?_
          rw [wid (by omega), allF_yes _ (by simp only [tmQ, decide_eq_true hb, decide_eq_true ht]; rfl)]
          exact ih 1 (by omega)
        | succ i =>
          refine Ev.pos (by omega) ?_
          have e1 : wrap64 (((i + 1 : Nat) : Int) - 1) = (i : Int) := by rw [wid (by omega)]; omega
          rw [e1, rdTM]
          refine Ev.pos (by omega) (Ev.pos (by omega) ?_)
          by_cases hc : (l.getD i z49).f0 < (l.getD (i + 1) z49).f0
          · refine Ev.neg (by omega) ?_
            rw [wid (by omega), allF_yes _ (by simp only [tmQ, decide_eq_true hb, decide_eq_true ht, Nat.add_sub_cancel, decide_eq_true hc]; simp)]
            exact ih (i + 2) (by omega)
          · refine Ev.pos (by omega) (Ev.some ?_)
            rw [allF_no _ (by omega) (by simp only [tmQ, Nat.add_sub_cancel, decide_eq_false hc]; simp), Bool.false_and]
      · refine Ev.neg (by simpa using ht) (Ev.some ?_)
        rw [allF_no _ (by omega) (by simp only [tmQ, decide_eq_false ht]; simp), Bool.false_and]
    · refine Ev.neg (by simpa using hb) (Ev.some ?_)
      rw [allF_no _ (by omega) (by simp only [tmQ, decide_eq_false hb]; simp), Bool.false_and]
theorem sTempo (l : List S49) (hl : l.length ≤ 17592186044416) : Ev (fun k => spec_l22Ok.f k l) (tempoB l) := by
  unfold spec_l22Ok.f tempoB
  exact sTempo_l0 l hl l.length 0 (by omega)
theorem tempoB_len {l : List S49} (h : tempoB l = true) : 1 ≤ l.length ∧ l.length ≤ 16 := by
  unfold tempoB at h; simp only [Bool.and_eq_true] at h; exact of_decide_eq_true h.2.1
theorem tempoB_zero {l : List S49} (h : tempoB l = true) : (l.getD 0 z49).f0 = 0 := by
  unfold tempoB at h; simp only [Bool.and_eq_true] at h; exact of_decide_eq_true h.2.2
theorem tempoB_get {l : List S49} (h : tempoB l = true) (j : Nat) (hj : j < l.length) : (0 ≤ (l.getD j z49).f0 ∧ (l.getD j z49).f0 ≤ 2000) ∧ 10 ≤ (l.getD j z49).f1 ∧ (l.getD j z49).f1 ≤ 600 := by
  unfold tempoB at h; simp only [Bool.and_eq_true] at h
  have := (allF_iff _).1 h.1 j hj (Nat.zero_le _)
  simp only [tmQ, Bool.and_eq_true] at this
  exact ⟨of_decide_eq_true this.1, of_decide_eq_true this.2.1⟩
theorem tempoB_lt {l : List S49} (h : tempoB l = true) (j : Nat) (hj : j + 1 < l.length) : (l.getD j z49).f0 < (l.getD (j + 1) z49).f0 := by
  unfold tempoB at h; simp only [Bool.and_eq_true] at h
  have := (allF_iff _).1 h.1 (j + 1) hj (Nat.zero_le _)
  simp only [tmQ, Bool.and_eq_true, Bool.or_eq_true, Nat.add_sub_cancel] at this
  rcases this.2.2 with e | e
  · exact absurd (of_decide_eq_true e) (by omega)
  · exact of_decide_eq_true e
theorem iTempo_l0 (l : List S49) (hl : l.length ≤ 17592186044416) (h0 : (l.getD 0 z49).f0 = 0) (d : Nat) : ∀ (i : Nat), i + d = l.length → (0 < i → 0 ≤ (l.getD (i - 1) z49).f0) → Ev (fun k => impl_ValidTempo.l0 k l l l.length i) (allF (tmQ l) l.length i) := by
  induction d with
  | zero =>
    intro i h1 _
    refine Ev.shift ?_
    simp only [impl_ValidTempo.l0]
    refine Ev.neg (by omega) (Ev.some ?_)
    rw [allF_end _ (by omega)]
  | succ d ih =>
    intro i h1 hp
    refine Ev.shift ?_
    simp only [impl_ValidTempo.l0, impl_tempoOk.f, within_eq, Option.bind_some]
    refine Ev.pos (by omega) (Ev.pos (by omega) (Ev.pos (by omega) ?_))
    rw [rdTM]
    by_cases ht : 10 ≤ (l.getD i z49).f1 ∧ (l.getD i z49).f1 ≤ 600
    · refine Ev.pos (decide_eq_true ht) ?_
      by_cases hb : (l.getD i z49).f0 > 2000
      · refine Ev.pos hb (Ev.some ?_)
        rw [allF_no _ (by omega) (by simp only [tmQ, decide_eq_false (show ¬ (0 ≤ (l.getD i z49).f0 ∧ (l.getD i z49).f0 ≤ 2000) by omega)]; simp)]
      · refine Ev.neg hb ?_
        cases i with
        | zero =>
          refine Ev.neg (by omega) ?_
          rw [wid (by omega), allF_yes _ (by simp only [tmQ, decide_eq_true (show 0 ≤ (l.getD 0 z49).f0 ∧ (l.getD 0 z49).f0 ≤ 2000 by omega), decide_eq_true ht]; rfl)]
          exact ih 1 (by omega) (fun _ => by simp only [Nat.sub_self]; omega)
        | succ i =>
          refine Ev.pos (by omega) ?_
          have e1 : wrap64 (((i + 1 : Nat) : Int) - 1) = (i : Int) := by rw [wid (by omega)]; omega
          rw [e1, rdTM]
          refine Ev.pos (by omega) (Ev.pos (by omega) ?_)
          have hq := hp (by omega)
          rw [Nat.add_sub_cancel] at hq
          by_cases hc : (l.getD i z49).f0 < (l.getD (i + 1) z49).f0
          · refine Ev.neg (by omega) ?_
            rw [wid (by omega), allF_yes _ (by simp only [tmQ, decide_eq_true (show 0 ≤ (l.getD (i + 1) z49).f0 ∧ (l.getD (i + 1) z49).f0 ≤ 2000 by omega), decide_eq_true ht, Nat.add_sub_cancel, decide_eq_true hc]; simp)]
            exact ih (i + 2) (by omega) (fun _ => by show 0 ≤ (l.getD (i + 1) z49).f0; omega)
          · refine Ev.pos (by omega) (Ev.some ?_)
            rw [allF_no _ (by omega) (by simp only [tmQ, Nat.add_sub_cancel, decide_eq_false hc]; simp)]
    · refine Ev.neg (by simpa using ht) (Ev.some ?_)
      rw [allF_no _ (by omega) (by simp only [tmQ, decide_eq_false ht]; simp)]
theorem iTempo (l : List S49) (hl : l.length ≤ 17592186044416) : Ev (fun k => impl_ValidTempo.f k l) (tempoB l) := by
  unfold impl_ValidTempo.f tempoB
  by_cases h1 : (l.length : Int) < 1
  · refine Ev.pos h1 (Ev.shift ?_)
    simp only [impl_ValidTempo.j0]
    refine Ev.some ?_
    simp [show ¬ (1 ≤ l.length) by omega]
  refine Ev.neg h1 ?_
  by_cases h2 : (l.length : Int) > 16
  · refine Ev.pos h2 (Ev.shift ?_)
    simp only [impl_ValidTempo.j0]
    refine Ev.some ?_
    simp [show ¬ (l.length ≤ 16) by omega]
  refine Ev.neg h2 (Ev.pos (by omega) (Ev.shift ?_))
  simp only [impl_ValidTempo.j0]
  have e := rdTM l 0
  simp only [Int.natCast_zero] at e
  rw [e]
  by_cases h0 : (l.getD 0 z49).f0 = 0
  · refine Ev.neg (by rw [h0]; decide) ?_
    rw [decide_eq_true h0, decide_eq_true (show 1 ≤ l.length ∧ l.length ≤ 16 by omega), Bool.and_true, Bool.and_true]
    exact iTempo_l0 l hl h0 l.length 0 (by omega) (by omega)
  · refine Ev.pos (by simpa using h0) (Ev.some ?_)
    rw [decide_eq_false h0, Bool.and_false, Bool.and_false]
def dgs (f : Nat) (m : Nat) : List Int := match f with
  | 0 => []
  | f + 1 => if m = 0 then [] else (48 + (m % 10 : Nat) : Int) :: dgs f (m / 10)
theorem dgs_len (f : Nat) : ∀ m, (dgs f m).length ≤ f := by
  induction f with
  | zero => intro m; simp [dgs]
  | succ f ih =>
    intro m
    simp only [dgs]
    split
    · simp
    · have := ih (m / 10); simp only [List.length_cons]; omega
theorem sDec_l1 (x : List Int) (hx : x.length ≤ 1000) : ∀ (j : Nat) (acc : List Int), j ≤ x.length → acc = (x.drop j).reverse → Ev (fun k => spec_l01Dec.l1 k x acc ((j : Int) - 1)) (strOfNums x.reverse) := by
  intro j
  induction j with
  | zero =>
    intro acc hj ha
    refine Ev.shift ?_
    simp only [spec_l01Dec.l1]
    rw [ha, List.drop_zero]
    exact Ev.neg (by omega) (Ev.now _)
  | succ j ih =>
    intro acc hj ha
    have e : ((j + 1 : Nat) : Int) - 1 = (j : Int) := by omega
    have w : wrap64 ((j : Int) - 1) = (j : Int) - 1 := wid (by omega)
    have hl : acc.length ≤ x.length := by rw [ha, List.length_reverse, List.length_drop]; omega
    have ih' := ih (acc ++ [x.getD j 0]) (by omega) (by rw [ha, List.drop_eq_getElem_cons (show j < x.length by omega), List.reverse_cons, List.getD_eq_getElem?_getD, List.getElem?_eq_getElem (show j < x.length by omega)]; rfl)
    refine Ev.shift ?_
    simp only [spec_l01Dec.l1, e, rd_nat, w]
    exact Ev.pos (by omega) (Ev.pos (by omega) (Ev.pos (by omega) (Ev.pos (by omega) ih')))
theorem sDec_l0 (n : Int) (hn : 0 ≤ n) (f : Nat) : ∀ (m : Nat) (acc : List Int), m < 10 ^ f → m ≤ 9000000000000000000 → acc.length + f ≤ 100 → Ev (fun k => spec_l01Dec.l0 k n acc (m : Int)) (strOfNums (acc ++ dgs f m).reverse) := by
  induction f with
  | zero =>
    intro m acc hm _ ha
    obtain rfl : m = 0 := by omega
    refine Ev.shift ?_
    simp only [spec_l01Dec.l0]
    refine Ev.pos rfl (Ev.neg (by omega) (Ev.shift ?_))
    simp only [spec_l01Dec.j1, dgs, List.append_nil]
    rw [wid (by omega)]
    exact sDec_l1 acc (by omega) acc.length [] (Nat.le_refl _) (by simp)
  | succ f ih =>
    intro m acc hm h9 ha
    by_cases h0 : m = 0
    · subst h0
      refine Ev.shift ?_
      simp only [spec_l01Dec.l0]
      refine Ev.pos rfl (Ev.neg (by omega) (Ev.shift ?_))
      simp only [spec_l01Dec.j1, dgs, if_true, List.append_nil]
      rw [wid (by omega)]
      exact sDec_l1 acc (by omega) acc.length [] (Nat.le_refl _) (by simp)
    · have t1 : Int.tmod (m : Int) 10 = ((m % 10 : Nat) : Int) := by rw [Int.tmod_eq_emod_of_nonneg (by omega)]; omega
      have t2 : wrap64 (Int.tdiv (m : Int) 10) = ((m / 10 : Nat) : Int) := by rw [Int.tdiv_eq_ediv_of_nonneg (by omega), wid (by omega)]; omega
      have t3 : (wrap64 (48 + ((m % 10 : Nat) : Int))) % 256 = 48 + ((m % 10 : Nat) : Int) := by rw [wid (by omega)]; omega
      have hd : m / 10 < 10 ^ f := by rw [Nat.pow_succ] at hm; omega
      have ih' := ih (m / 10) (acc ++ [48 + ((m % 10 : Nat) : Int)]) hd (by omega) (by rw [List.length_append]; simp only [List.length_cons, List.length_nil]; omega)
      refine Ev.shift ?_
      simp only [spec_l01Dec.l0, t1, t2, t3, dgs, if_neg h0]
      rw [List.append_assoc] at ih'
      exact Ev.neg (by omega) (Ev.neg (by omega) (Ev.pos (by omega) ih'))
theorem dgs_zero (f : Nat) : dgs f 0 = [] := by cases f <;> simp [dgs]
theorem dgs_dec (f : Nat) : ∀ m, m < 10 ^ f → 0 < m → ((dgs f m).reverse.map fun n => UInt8.ofNat n.toNat) = Lib.decDigits m := by
  induction f with
  | zero => intro m h1 h2; omega
  | succ f ih =>
    intro m h1 h2
    have e : (48 + ((m % 10 : Nat) : Int)).toNat = 48 + m % 10 := by omega
    simp only [dgs, if_neg (show ¬ m = 0 by omega), List.reverse_cons, List.map_append, List.map_cons, List.map_nil, e]
    by_cases h : m < 10
    · rw [show m / 10 = 0 by omega, dgs_zero, Lib.decDigits_one h, show m % 10 = m by omega]; rfl
    · rw [ih (m / 10) (by rw [Nat.pow_succ] at h1; omega) (by omega)]
      conv => rhs; rw [Lib.decDigits, dif_neg h]
def dec (n : Int) : ByteArray := ⟨(Lib.itoa n).toArray⟩
theorem sDec (n : Int) (h : 0 ≤ n ∧ n ≤ 9000000000000000000) : Ev (fun k => spec_l01Dec.f k n) (dec n) := by
  unfold spec_l01Dec.f
  by_cases h0 : n = 0
  · subst h0
    refine Ev.pos rfl (Ev.some ?_)
    unfold dec Lib.itoa
    rw [if_neg (by omega), show (0 : Int).toNat = 0 from rfl, Lib.decDigits_one (by omega)]; rfl
  · obtain ⟨m, rfl⟩ := Int.eq_ofNat_of_zero_le h.1
    refine Ev.neg h0 ?_
    have hm : m < 10 ^ 19 := by omega
    have := sDec_l0 (m : Int) (by omega) 19 m [] hm (by omega) (by simp)
    rw [List.nil_append] at this
    refine Ev.same this ?_
    unfold dec strOfNums Lib.itoa
    rw [if_neg (by omega), Int.toNat_natCast, dgs_dec 19 m hm (by omega)]
theorem iDec (n : Int) (h : 0 ≤ n ∧ n ≤ 9000000000000000000) : impl_Decimal.f n = some (dec n) := by
  unfold impl_Decimal.f strconv_FormatInt.f
  rw [if_pos ⟨rfl, by omega, by omega⟩]; rfl
theorem dec_size (n : Int) (h : 0 ≤ n ∧ n ≤ 9000000000000000000) : (dec n).size ≤ 20 := by
  obtain ⟨m, rfl⟩ := Int.eq_ofNat_of_zero_le h.1
  have e : (dec (m : Int)).size = (Lib.decDigits m).length := by
    unfold dec Lib.itoa
    rw [if_neg (by omega), Int.toNat_natCast]; rfl
  rw [e]
  by_cases h0 : m = 0
  · subst h0; rw [Lib.decDigits_one (by omega)]; simp
  · rw [← dgs_dec 19 m (by omega) (by omega), List.length_map, List.length_reverse]
    have := dgs_len 19 m; omega
def item (y : S49) : ByteArray := dec y.f0 ++ (⟨#[58]⟩ : ByteArray) ++ dec y.f1
def textOf (l : List S49) : ByteArray := ⟨(Lib.join ((l.map item).map (·.data.toList)) [32]).toArray⟩
theorem textOf_nil : textOf [] = (⟨#[]⟩ : ByteArray) := rfl
theorem textOf_one (y : S49) : textOf [y] = item y := by
  unfold textOf
  rw [List.map_cons, List.map_nil, List.map_cons, List.map_nil, Lib.join_one]
theorem textOf_snoc (l : List S49) (hl : l ≠ []) (y : S49) : textOf (l ++ [y]) = textOf l ++ (⟨#[32]⟩ : ByteArray) ++ item y := by
  cases l with
  | nil => exact absurd rfl hl
  | cons x r =>
    unfold textOf
    rw [List.cons_append, List.map_cons, List.map_cons, List.map_cons, List.map_cons, Lib.join_cons, Lib.join_cons]
    apply ByteArray.ext
    rw [ByteArray.data_append, ByteArray.data_append]
    apply Array.ext'
    simp [Lib.joinTail]
def okTM (y : S49) : Prop := (0 ≤ y.f0 ∧ y.f0 ≤ 9000000000000000000) ∧ 0 ≤ y.f1 ∧ y.f1 ≤ 9000000000000000000
theorem item_size (y : S49) (h : okTM y) : (item y).size ≤ 41 := by
  unfold item
  have h1 := dec_size y.f0 h.1
  have h2 := dec_size y.f1 h.2
  rw [ByteArray.size_append, ByteArray.size_append]
  have : (⟨#[58]⟩ : ByteArray).size = 1 := rfl
  omega
theorem take_snoc (l : List S49) (i : Nat) (h : i < l.length) : l.take (i + 1) = l.take i ++ [l.getD i z49] := by
  rw [List.take_add_one, List.getElem?_eq_getElem h, List.getD_eq_getElem?_getD, List.getElem?_eq_getElem h]; rfl
theorem txt_size (l : List S49) (h : ∀ j, j < l.length → okTM (l.getD j z49)) : ∀ i, i ≤ l.length → (textOf (l.take i)).size ≤ 42 * i := by
  intro i
  induction i with
  | zero => intro _; rw [List.take_zero, textOf_nil]; exact Nat.le_refl _
  | succ i ih =>
    intro hi
    have h1 := ih (by omega)
    have h2 := item_size _ (h i (by omega))
    rw [take_snoc l i (by omega)]
    by_cases h0 : i = 0
    · subst h0
      rw [List.take_zero, List.nil_append, textOf_one]; omega
    · rw [textOf_snoc _ (by intro e; have := congrArg List.length e; rw [List.length_take, List.length_nil] at this; omega), ByteArray.size_append, ByteArray.size_append]
      have : (⟨#[32]⟩ : ByteArray).size = 1 := rfl
      omega
theorem sText_l0 (l : List S49) (hl : l.length ≤ 1000) (h : ∀ j, j < l.length → okTM (l.getD j z49)) (d : Nat) : ∀ i : Nat, i + d = l.length → Ev (fun k => spec_l22Text.l0 k l (textOf (l.take i)) (i : Int)) (textOf l) := by
  induction d with
  | zero =>
    intro i hi
    refine Ev.shift ?_
    simp only [spec_l22Text.l0]
    rw [List.take_of_length_le (by omega)]
    exact Ev.neg (by omega) (Ev.now _)
  | succ d ih =>
    intro i hi
    have w1 : wrap64 ((i : Int) + 1) = ((i + 1 : Nat) : Int) := by rw [wid (by omega)]; rfl
    have hy := h i (by omega)
    have hs := txt_size l h i (by omega)
    have d0 := sDec _ hy.1
    have d1 := sDec _ hy.2
    have z0 := dec_size _ hy.1
    have z1 := dec_size _ hy.2
    have e58 : (⟨#[58]⟩ : ByteArray).size = 1 := rfl
    have e32 : (⟨#[32]⟩ : ByteArray).size = 1 := rfl
    have ih' := ih (i + 1) (by omega)
    rw [take_snoc l i (by omega)] at ih'
    refine Ev.shift ?_
    simp only [spec_l22Text.l0, rdTM, w1]
    clear w1
    refine Ev.pos (by omega) ?_
    by_cases h0 : i = 0
    · subst h0
      rw [List.take_zero, List.nil_append, textOf_one] at ih'
      refine Ev.neg (by omega) (Ev.pos (by omega) (Ev.bind d0 (Ev.pos (by omega) (Ev.bind d1 (Ev.pos (by rw [ByteArray.size_append]; omega) (Ev.pos (by rw [ByteArray.size_append, ByteArray.size_append]; omega) ?_))))))
      have e : textOf (l.take 0) ++ ((dec (l.getD 0 z49).f0 ++ (⟨#[58]⟩ : ByteArray)) ++ dec (l.getD 0 z49).f1) = item (l.getD 0 z49) := by
        rw [List.take_zero, textOf_nil]; unfold item; exact ByteArray.empty_append
      rw [e]
      exact ih'
    · rw [textOf_snoc _ (by intro e; have := congrArg List.length e; rw [List.length_take, List.length_nil] at this; omega)] at ih'
      exact Ev.pos (by omega) (Ev.pos (by omega) (Ev.pos (by omega) (Ev.bind d0 (Ev.pos (by omega) (Ev.bind d1 (Ev.pos (by rw [ByteArray.size_append]; omega) (Ev.pos (by rw [ByteArray.size_append, ByteArray.size_append, ByteArray.size_append]; omega) ih')))))))
theorem iText_l0 (l : List S49) (hl : l.length ≤ 1000) (h : ∀ j, j < l.length → okTM (l.getD j z49)) (d : Nat) : ∀ i : Nat, i + d = l.length → Ev (fun k => impl_TempoText.l0 k ((l.take i).map item) l (l.length : Int) (i : Int)) (textOf l) := by
  induction d with
  | zero =>
    intro i hi
    have hs := txt_size l h l.length (Nat.le_refl _)
    rw [List.take_of_length_le (Nat.le_refl _)] at hs
    have hj : (Lib.join ((l.map item).map (·.data.toList)) [32]).length ≤ 42 * l.length := hs
    refine Ev.shift ?_
    simp only [impl_TempoText.l0]
    rw [List.take_of_length_le (by omega)]
    refine Ev.neg (by omega) ?_
    unfold strings_Join.f
    rw [if_pos ⟨by rw [List.length_map]; omega, by show (Lib.join ((l.map item).map (·.data.toList)) [32]).length ≤ _; omega⟩]
    exact Ev.now _
  | succ d ih =>
    intro i hi
    have w1 : wrap64 ((i : Int) + 1) = ((i + 1 : Nat) : Int) := by rw [wid (by omega)]; rfl
    have hy := h i (by omega)
    have d0 := iDec _ hy.1
    have d1 := iDec _ hy.2
    have z0 := dec_size _ hy.1
    have z1 := dec_size _ hy.2
    have e58 : (⟨#[58]⟩ : ByteArray).size = 1 := rfl
    have ih' := ih (i + 1) (by omega)
    rw [take_snoc l i (by omega), List.map_append] at ih'
    refine Ev.shift ?_
    simp only [impl_TempoText.l0, rdTM, w1, d0, d1, Option.bind_some]
    clear w1
    exact Ev.pos (by omega) (Ev.pos (by omega) (Ev.pos (by omega) (Ev.pos (by omega) (Ev.pos (by rw [ByteArray.size_append]; omega) (Ev.pos (by rw [List.length_map, List.length_take]; omega) ih')))))
def ttR (l : List S49) : ByteArray := if tempoB l = true then textOf l else (⟨#[]⟩ : ByteArray)
theorem tempo_ok {l : List S49} (h : tempoB l = true) : l.length ≤ 1000 ∧ ∀ j, j < l.length → okTM (l.getD j z49) := by
  have h1 := tempoB_len h
  refine ⟨by omega, fun j hj => ?_⟩
  have h2 := tempoB_get h j hj
  exact ⟨by omega, by omega⟩
theorem ttS (l : List S49) (hl : l.length ≤ 17592186044416) : Ev (fun k => spec_TempoText.f k l) (ttR l) := by
  unfold spec_TempoText.f ttR
  refine Ev.bind (sTempo l hl) ?_
  by_cases h : tempoB l = true
  · obtain ⟨h1, h2⟩ := tempo_ok h
    rw [if_pos h]
    refine Ev.pos h ?_
    have := sText_l0 l h1 h2 l.length 0 (by omega)
    rw [List.take_zero, textOf_nil] at this
    unfold spec_l22Text.f
    exact Ev.bind this (Ev.now _)
  · rw [if_neg h]
    exact Ev.neg h (Ev.now _)
theorem ttI (l : List S49) (hl : l.length ≤ 17592186044416) : Ev (fun k => impl_TempoText.f k l) (ttR l) := by
  unfold impl_TempoText.f ttR
  refine Ev.bind (iTempo l hl) ?_
  by_cases h : tempoB l = true
  · obtain ⟨h1, h2⟩ := tempo_ok h
    rw [if_pos h]
    refine Ev.pos h ?_
    have := iText_l0 l h1 h2 l.length 0 (by omega)
    rw [List.take_zero, List.map_nil] at this
    exact this
  · rw [if_neg h]
    exact Ev.neg h (Ev.now _)
theorem FnExactTempoText : laws_FnExactTempoText.Pure := by
  intro l hm
  refine Ev.rounds (g := fun k => laws_FnExactTempoText.f k l) ?_
  unfold laws_FnExactTempoText.f
  rw [szTempoMark l hm.1]
  simp only [Option.bind_some]
  by_cases hl : l.length ≤ 1048576
  · rw [if_pos hl]
    refine Ev.neg (by omega) ?_
    have hl' : l.length ≤ 17592186044416 := by omega
    have hc : (cpTempoMark l).length ≤ 17592186044416 := by rw [cpTempoMark_length]; exact hl'
    refine Ev.bind (toTempoMark l hl') (Ev.bind (ttS _ hc) (Ev.bind (toTempoMark l hl') (Ev.bind (ttI _ hc) (Ev.pos rfl ?_))))
    exact Ev.bind (toTempoMark l hl') (Ev.bind (eqTempoMark _ hc) (Ev.pos rfl (Ev.now _)))
  · rw [if_neg hl]
    exact Ev.pos (by omega) (Ev.now _)

end Go.Proofs.YtpekclmaikcehaaDoor.Pure
