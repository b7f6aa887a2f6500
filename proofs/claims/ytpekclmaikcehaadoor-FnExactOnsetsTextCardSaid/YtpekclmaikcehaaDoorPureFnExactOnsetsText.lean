/- The pure statement of the law FnExactOnsetsText: what the Go functions compute, told by plain Lean functions, is what the law asks, for all arguments. No condition beyond the printed ones. -/
import Derived.Test.YtpekclmaikcehaaDoorPFnExactOnsetsTextxo
import Derived.Test.YtpekclmaikcehaaDoorXW
namespace Go.Proofs.YtpekclmaikcehaaDoor.Pure
open Go.RowKit Go.Proofs.YtpekclmaikcehaaDoor.PFnExactOnsetsText Go.Proofs.YtpekclmaikcehaaDoorW.PrintWords Go.Proofs.YtpekclmaikcehaaDoorW.PrintLast Go.Proofs.YtpekclmaikcehaaDoorW.PrintMore Go.Proofs.YtpekclmaikcehaaDoorXW
set_option linter.unusedVariables false
set_option linter.unusedSimpArgs false
theorem toI_l0 (l : List Int) (hl : l.length ≤ 35184372088832) (d : Nat) : ∀ (i : Nat) (acc : List Int), i + d = l.length → acc.length = l.length → acc.take i = l.take i → Ev (fun k => laws_toInt64S.l0 k l acc i) l := by
  induction d with
  | zero =>
    intro i acc h1 h2 h3
    refine Ev.shift ?_
    simp only [laws_toInt64S.l0]
    refine Ev.neg (by omega) ?_
    refine Ev.some ?_
    rw [List.take_of_length_le (by omega), List.take_of_length_le (by omega)] at h3
    rw [h3]
  | succ d ih =>
    intro i acc h1 h2 h3
    refine Ev.shift ?_
    simp only [laws_toInt64S.l0]
    refine Ev.pos (by omega) (Ev.pos (by omega) (Ev.pos (by omega) ?_))
    rw [wid (by omega), rd_get l i (by omega), Int.toNat_natCast]
    refine ih (i + 1) (acc.set i l[i]) (by omega) (by rw [List.length_set, h2]) ?_
    rw [List.take_succ_eq_append_getElem (by rw [List.length_set]; omega), List.take_succ_eq_append_getElem (by omega), List.take_set_of_le (by omega), List.getElem_set_self, h3]
theorem toI (l : List Int) (hl : l.length ≤ 35184372088832) : Ev (fun k => laws_toInt64S.f k l) l := by
  unfold laws_toInt64S.f
  refine Ev.pos (by omega) (Ev.pos (by omega) ?_)
  rw [Int.toNat_natCast]
  exact toI_l0 l hl l.length 0 _ (by omega) (by simp) (by simp)
theorem eqI_l0 (l : List Int) (hl : l.length ≤ 35184372088832) (d : Nat) : ∀ (i : Nat), i + d = l.length → Ev (fun k => laws_eqInt64S.l0 k l l i) true := by
  induction d with
  | zero =>
    intro i h1
    refine Ev.shift ?_
    simp only [laws_eqInt64S.l0]
    exact Ev.neg (by omega) (Ev.now _)
  | succ d ih =>
    intro i h1
    refine Ev.shift ?_
    simp only [laws_eqInt64S.l0]
    refine Ev.pos (by omega) (Ev.pos (by omega) (Ev.pos (by omega) (Ev.pos (by trivial) ?_)))
    rw [wid (by omega)]
    exact ih (i + 1) (by omega)
theorem eqI (l : List Int) (hl : l.length ≤ 35184372088832) : Ev (fun k => laws_eqInt64S.f k l l) true := by
  unfold laws_eqInt64S.f
  exact Ev.pos rfl (eqI_l0 l hl l.length 0 (by omega))
def risQ (l : List Int) (lo hi : Int) (j : Nat) : Bool := decide (lo ≤ l.getD j 0 ∧ l.getD j 0 ≤ hi) && (decide (j = 0) || decide (l.getD (j - 1) 0 < l.getD j 0))
theorem in_eq (a b c : Int) : spec_l00In.f a b c = some (decide (b ≤ a ∧ a ≤ c)) := by
  unfold spec_l00In.f; split <;> simp_all; omega
theorem within_eq (a b c : Int) : impl_within.f a b c = some (decide (b ≤ a ∧ a ≤ c)) := by
  unfold impl_within.f; split <;> simp_all; omega
theorem allIn_eq (l : List Int) (a b : Int) : impl_allWithin.f l a b = some (l.all fun x => decide (a ≤ x ∧ x ≤ b)) := by
  unfold impl_allWithin.f
  rw [List.not_any_eq_all_not]
  congr 2
  funext x
  simp [allP]
theorem rises_l0 (l : List Int) (lo hi : Int) (hl : l.length ≤ 35184372088832) (d : Nat) : ∀ (i : Nat), i + d = l.length → Ev (fun k => spec_l00Rises.l0 k l lo hi i) (allF (risQ l lo hi) l.length i) := by
  induction d with
  | zero =>
    intro i h1
    refine Ev.shift ?_
    simp only [spec_l00Rises.l0]
    exact Ev.neg (by omega) (Ev.some (by rw [allF_end _ (by omega)]))
  | succ d ih =>
    intro i h1
    refine Ev.shift ?_
    simp only [spec_l00Rises.l0, in_eq, Option.bind_some]
    refine Ev.pos (by omega) (Ev.pos (by omega) ?_)
    rw [rd_nat]
    by_cases hb : lo ≤ l.getD i 0 ∧ l.getD i 0 ≤ hi
    · refine Ev.pos (by simpa using hb) ?_
      cases i with
      | zero =>
        refine Ev.neg (by omega) ?_
        rw [wid (by omega), allF_yes _ (by simp only [risQ]; simp; exact hb)]
        exact ih 1 (by omega)
      | succ i =>
        refine Ev.pos (by omega) ?_
        have e1 : wrap64 (((i + 1 : Nat) : Int) - 1) = (i : Int) := by rw [wid (by omega)]; omega
        rw [e1, rd_nat]
        refine Ev.pos (by omega) (Ev.pos (by omega) ?_)
        by_cases hc : l.getD i 0 < l.getD (i + 1) 0
        · refine Ev.neg (by omega) ?_
          rw [wid (by omega), allF_yes _ (by simp only [risQ]; simp; exact ⟨hb, hc⟩)]
          exact ih (i + 2) (by omega)
        · refine Ev.pos (by omega) (Ev.some ?_)
          rw [allF_no _ (by omega) (by simp only [risQ, Nat.add_sub_cancel, decide_eq_false hc]; simp)]
    · refine Ev.neg (by simpa using hb) (Ev.some ?_)
      rw [allF_no _ (by omega) (by simp only [risQ]; rw [decide_eq_false hb]; rfl)]
theorem rises_ev (l : List Int) (lo hi : Int) (hl : l.length ≤ 35184372088832) : Ev (fun k => spec_l00Rises.f k l lo hi) (allF (risQ l lo hi) l.length 0) := by
  unfold spec_l00Rises.f
  exact rises_l0 l lo hi hl l.length 0 (by omega)
def incQ (l : List Int) (j : Nat) : Bool := decide (l.getD (j - 1) 0 < l.getD j 0)
theorem inc_l0 (l : List Int) (hl : l.length ≤ 35184372088832) (d : Nat) : ∀ (i : Nat), 1 ≤ i → l.length ≤ i + d → Ev (fun k => impl_increasing.l0 k l i) (allF (incQ l) l.length i) := by
  induction d with
  | zero =>
    intro i h0 h1
    refine Ev.shift ?_
    simp only [impl_increasing.l0]
    exact Ev.neg (by omega) (Ev.some (by rw [allF_end _ (by omega)]))
  | succ d ih =>
    intro i h0 h1
    by_cases hi : i < l.length
    · refine Ev.shift ?_
      simp only [impl_increasing.l0]
      have e1 : wrap64 ((i : Int) - 1) = ((i - 1 : Nat) : Int) := by rw [wid (by omega)]; omega
      rw [e1, rd_nat, rd_nat]
      refine Ev.pos (by omega) (Ev.pos (by omega) (Ev.pos (by omega) (Ev.pos (by omega) ?_)))
      by_cases hc : l.getD (i - 1) 0 < l.getD i 0
      · refine Ev.neg (by omega) ?_
        rw [wid (by omega), allF_yes _ (by simp only [incQ]; simpa using hc)]
        exact ih (i + 1) (by omega) (by omega)
      · refine Ev.pos (by omega) (Ev.some ?_)
        rw [allF_no _ (by omega) (by simp only [incQ]; simpa using hc)]
    · refine Ev.shift ?_
      simp only [impl_increasing.l0]
      exact Ev.neg (by omega) (Ev.some (by rw [allF_end _ (by omega)]))
theorem inc_ev (l : List Int) (hl : l.length ≤ 35184372088832) : Ev (fun k => impl_increasing.f k l) (allF (incQ l) l.length 1) := by
  unfold impl_increasing.f
  exact inc_l0 l hl l.length 1 (by omega) (by omega)
/-- The one test is the two others. -/
theorem rises_inc (l : List Int) (lo hi : Int) : (allF (incQ l) l.length 1 && l.all fun x => decide (lo ≤ x ∧ x ≤ hi)) = allF (risQ l lo hi) l.length 0 := by
  rw [Bool.eq_iff_iff, Bool.and_eq_true, allF_iff, allF_iff, all_iff_get]
  constructor
  · rintro ⟨h1, h2⟩ j hj _
    simp only [risQ, Bool.and_eq_true, Bool.or_eq_true]
    refine ⟨h2 j hj, ?_⟩
    by_cases e : j = 0
    · left; simpa using e
    · right; exact h1 j hj (by omega)
  · intro h
    refine ⟨fun j hj h1 => ?_, fun j hj => ?_⟩
    · have := h j hj (by omega)
      simp only [risQ, Bool.and_eq_true, Bool.or_eq_true] at this
      rcases this.2 with e | e
      · simp at e; omega
      · exact e
    · have := h j hj (by omega)
      simp only [risQ, Bool.and_eq_true] at this
      exact this.1
def onsetsB (l : List Int) : Bool := decide (l.length ≤ 48) && allF (risQ l 0 10000000) l.length 0
theorem sOnsets (l : List Int) (hl : l.length ≤ 35184372088832) : Ev (fun k => spec_l24Ok.f k l) (onsetsB l) := by
  unfold spec_l24Ok.f onsetsB
  by_cases h : l.length ≤ 48
  · refine Ev.pos (by omega) (Ev.bind (rises_ev l _ _ hl) (Ev.some ?_))
    simp [h]
  · refine Ev.neg (by omega) (Ev.some ?_)
    simp [h]
theorem iOnsets (l : List Int) (hl : l.length ≤ 35184372088832) : Ev (fun k => impl_ValidOnsets.f k l) (onsetsB l) := by
  unfold impl_ValidOnsets.f onsetsB
  by_cases h : l.length ≤ 48
  · refine Ev.pos (by omega) (Ev.bind (inc_ev l hl) ?_)
    rw [← rises_inc]
    simp only [allIn_eq, Option.bind_some, h, decide_true, Bool.true_and]
    cases e : allF (incQ l) l.length 1
    · exact Ev.neg (by decide) (Ev.now _)
    · exact Ev.pos rfl (Ev.now _)
  · refine Ev.neg (by omega) (Ev.some ?_)
    simp [h]
theorem onsetsB_len {l : List Int} (h : onsetsB l = true) : l.length ≤ 48 := by
  unfold onsetsB at h; simp only [Bool.and_eq_true, decide_eq_true_eq] at h; exact h.1
theorem onsetsB_get {l : List Int} (h : onsetsB l = true) (j : Nat) (hj : j < l.length) : 0 ≤ l.getD j 0 ∧ l.getD j 0 ≤ 10000000 := by
  unfold onsetsB at h; simp only [Bool.and_eq_true] at h
  have := (allF_iff _).1 h.2 j hj (Nat.zero_le _)
  simp only [risQ, Bool.and_eq_true] at this
  exact of_decide_eq_true this.1
theorem onsetsB_lt {l : List Int} (h : onsetsB l = true) (j : Nat) (hj : j + 1 < l.length) : l.getD j 0 < l.getD (j + 1) 0 := by
  unfold onsetsB at h; simp only [Bool.and_eq_true] at h
  have := (allF_iff _).1 h.2 (j + 1) hj (Nat.zero_le _)
  simp only [risQ, Bool.and_eq_true, Bool.or_eq_true, Nat.add_sub_cancel] at this
  rcases this.2 with e | e
  · exact absurd (of_decide_eq_true e) (by omega)
  · exact of_decide_eq_true e
theorem onsetsB_rd {l : List Int} (h : onsetsB l = true) (x : Int) : 0 ≤ rd l x ∧ rd l x ≤ 10000000 := by
  unfold rd
  by_cases hx : x.toNat < l.length
  · exact onsetsB_get h _ hx
  · rw [List.getD_eq_getElem?_getD, List.getElem?_eq_none (by omega)]; simp
def dgs (f : Nat) (m : Nat) : List Int := match f with
  | 0 => []
  | f + 1 => if m = 0 then [] else (48 + (m % 10 : Nat) : Int) :: dgs f (m / 10)
theorem dgs_len (f : Nat) : ∀ m, (dgs f m).length ≤ f := by
  induction f with
  | zero => intro m; simp [dgs]
  | succ f ih =>
    intro m
    simp only [dgs]
    split
    · simp
    · have := ih (m / 10); simp only [List.length_cons]; omega
theorem sDec_l1 (x : List Int) (hx : x.length ≤ 1000) : ∀ (j : Nat) (acc : List Int), j ≤ x.length → acc = (x.drop j).reverse → Ev (fun k => spec_l01Dec.l1 k x acc ((j : Int) - 1)) (strOfNums x.reverse) := by
  intro j
  induction j with
  | zero =>
    intro acc hj ha
    refine Ev.shift ?_
    simp only [spec_l01Dec.l1]
    rw [ha, List.drop_zero]
    exact Ev.neg (by omega) (Ev.now _)
  | succ j ih =>
    intro acc hj ha
    have e : ((j + 1 : Nat) : Int) - 1 = (j : Int) := by omega
    have w : wrap64 ((j : Int) - 1) = (j : Int) - 1 := wid (by omega)
    have hl : acc.length ≤ x.length := by rw [ha, List.length_reverse, List.length_drop]; omega
    have ih' := ih (acc ++ [x.getD j 0]) (by omega) (by rw [ha, List.drop_eq_getElem_cons (show j < x.length by omega), List.reverse_cons, List.getD_eq_getElem?_getD, List.getElem?_eq_getElem (show j < x.length by omega)]; rfl)
    refine Ev.shift ?_
    simp only [spec_l01Dec.l1, e, rd_nat, w]
    exact Ev.pos (by omega) (Ev.pos (by omega) (Ev.pos (by omega) (Ev.pos (by omega) ih')))
theorem sDec_l0 (n : Int) (hn : 0 ≤ n) (f : Nat) : ∀ (m : Nat) (acc : List Int), m < 10 ^ f → m ≤ 9000000000000000000 → acc.length + f ≤ 100 → Ev (fun k => spec_l01Dec.l0 k n acc (m : Int)) (strOfNums (acc ++ dgs f m).reverse) := by
  induction f with
  | zero =>
    intro m acc hm _ ha
    obtain rfl : m = 0 := by omega
    refine Ev.shift ?_
    simp only [spec_l01Dec.l0]
    refine Ev.pos rfl (Ev.neg (by omega) (Ev.shift ?_))
    simp only [spec_l01Dec.j1, dgs, List.append_nil]
    rw [wid (by omega)]
    exact sDec_l1 acc (by omega) acc.length [] (Nat.le_refl _) (by simp)
  | succ f ih =>
    intro m acc hm h9 ha
    by_cases h0 : m = 0
    · subst h0
      refine Ev.shift ?_
      simp only [spec_l01Dec.l0]
      refine Ev.pos rfl (Ev.neg (by omega) (Ev.shift ?_))
      simp only [spec_l01Dec.j1, dgs, if_true, List.append_nil]
      rw [wid (by omega)]
      exact sDec_l1 acc (by omega) acc.length [] (Nat.le_refl _) (by simp)
    · have t1 : Int.tmod (m : Int) 10 = ((m % 10 : Nat) : Int) := by rw [Int.tmod_eq_emod_of_nonneg (by omega)]; omega
      have t2 : wrap64 (Int.tdiv (m : Int) 10) = ((m / 10 : Nat) : Int) := by rw [Int.tdiv_eq_ediv_of_nonneg (by omega), wid (by omega)]; omega
      have t3 : (wrap64 (48 + ((m % 10 : Nat) : Int))) % 256 = 48 + ((m % 10 : Nat) : Int) := by rw [wid (by omega)]; omega
      have hd : m / 10 < 10 ^ f := by rw [Nat.pow_succ] at hm; omega
      have ih' := ih (m / 10) (acc ++ [48 + ((m % 10 : Nat) : Int)]) hd (by omega) (by rw [List.length_append]; simp only [List.length_cons, List.length_nil]; omega)
      refine Ev.shift ?_
      simp only [spec_l01Dec.l0, t1, t2, t3, dgs, if_neg h0]
      rw [List.append_assoc] at ih'
      exact Ev.neg (by omega) (Ev.neg (by omega) (Ev.pos (by omega) ih'))
theorem dgs_zero (f : Nat) : dgs f 0 = [] := by cases f <;> simp [dgs]
theorem dgs_dec (f : Nat) : ∀ m, m < 10 ^ f → 0 < m → ((dgs f m).reverse.map fun n => UInt8.ofNat n.toNat) = Lib.decDigits m := by
  induction f with
  | zero => intro m h1 h2; omega
  | succ f ih =>
    intro m h1 h2
    have e : (48 + ((m % 10 : Nat) : Int)).toNat = 48 + m % 10 := by omega
    simp only [dgs, if_neg (show ¬ m = 0 by omega), List.reverse_cons, List.map_append, List.map_cons, List.map_nil, e]
    by_cases h : m < 10
    · rw [show m / 10 = 0 by omega, dgs_zero, Lib.decDigits_one h, show m % 10 = m by omega]; rfl
    · rw [ih (m / 10) (by rw [Nat.pow_succ] at h1; omega) (by omega)]
      conv => rhs; rw [Lib.decDigits, dif_neg h]
def dec (n : Int) : ByteArray := ⟨(Lib.itoa n).toArray⟩
theorem sDec (n : Int) (h : 0 ≤ n ∧ n ≤ 9000000000000000000) : Ev (fun k => spec_l01Dec.f k n) (dec n) := by
  unfold spec_l01Dec.f
  by_cases h0 : n = 0
  · subst h0
    refine Ev.pos rfl (Ev.some ?_)
    unfold dec Lib.itoa
    rw [if_neg (by omega), show (0 : Int).toNat = 0 from rfl, Lib.decDigits_one (by omega)]; rfl
  · obtain ⟨m, rfl⟩ := Int.eq_ofNat_of_zero_le h.1
    refine Ev.neg h0 ?_
    have hm : m < 10 ^ 19 := by omega
    have := sDec_l0 (m : Int) (by omega) 19 m [] hm (by omega) (by simp)
    rw [List.nil_append] at this
    refine Ev.same this ?_
    unfold dec strOfNums Lib.itoa
    rw [if_neg (by omega), Int.toNat_natCast, dgs_dec 19 m hm (by omega)]
theorem iDec (n : Int) (h : 0 ≤ n ∧ n ≤ 9000000000000000000) : impl_Decimal.f n = some (dec n) := by
  unfold impl_Decimal.f strconv_FormatInt.f
  rw [if_pos ⟨rfl, by omega, by omega⟩]; rfl
theorem dec_size (n : Int) (h : 0 ≤ n ∧ n ≤ 9000000000000000000) : (dec n).size ≤ 20 := by
  obtain ⟨m, rfl⟩ := Int.eq_ofNat_of_zero_le h.1
  have e : (dec (m : Int)).size = (Lib.decDigits m).length := by
    unfold dec Lib.itoa
    rw [if_neg (by omega), Int.toNat_natCast]; rfl
  rw [e]
  by_cases h0 : m = 0
  · subst h0; rw [Lib.decDigits_one (by omega)]; simp
  · rw [← dgs_dec 19 m (by omega) (by omega), List.length_map, List.length_reverse]
    have := dgs_len 19 m; omega
def decs (l : List Int) : ByteArray := ⟨(Lib.join ((l.map dec).map (·.data.toList)) [44]).toArray⟩
theorem decs_nil : decs [] = (⟨#[]⟩ : ByteArray) := rfl
theorem decs_one (y : Int) : decs [y] = dec y := by
  unfold decs
  rw [List.map_cons, List.map_nil, List.map_cons, List.map_nil, Lib.join_one]
theorem decs_snoc (l : List Int) (hl : l ≠ []) (y : Int) : decs (l ++ [y]) = decs l ++ (⟨#[44]⟩ : ByteArray) ++ dec y := by
  cases l with
  | nil => exact absurd rfl hl
  | cons x r =>
    unfold decs
    rw [List.cons_append, List.map_cons, List.map_cons, List.map_cons, List.map_cons, Lib.join_cons, Lib.join_cons]
    apply ByteArray.ext
    rw [ByteArray.data_append, ByteArray.data_append]
    apply Array.ext'
    simp [Lib.joinTail]
def okD (y : Int) : Prop := 0 ≤ y ∧ y ≤ 1000000000000
theorem okD_9 {y : Int} (h : okD y) : 0 ≤ y ∧ y ≤ 9000000000000000000 := ⟨h.1, by have := h.2; omega⟩
theorem takeI_snoc (l : List Int) (i : Nat) (h : i < l.length) : l.take (i + 1) = l.take i ++ [l.getD i 0] := by
  rw [List.take_add_one, List.getElem?_eq_getElem h, List.getD_eq_getElem?_getD, List.getElem?_eq_getElem h]; rfl
theorem decs_size (l : List Int) (h : ∀ j, j < l.length → okD (l.getD j 0)) : ∀ i, i ≤ l.length → (decs (l.take i)).size ≤ 21 * i := by
  intro i
  induction i with
  | zero => intro _; rw [List.take_zero, decs_nil]; exact Nat.le_refl _
  | succ i ih =>
    intro hi
    have h1 := ih (by omega)
    have h2 := dec_size _ (okD_9 (h i (by omega)))
    rw [takeI_snoc l i (by omega)]
    by_cases h0 : i = 0
    · subst h0
      rw [List.take_zero, List.nil_append, decs_one]; omega
    · rw [decs_snoc _ (by intro e; have := congrArg List.length e; rw [List.length_take, List.length_nil] at this; omega), ByteArray.size_append, ByteArray.size_append]
      have : (⟨#[44]⟩ : ByteArray).size = 1 := rfl
      omega
theorem sList_l0 (l : List Int) (hl : l.length ≤ 1000) (h : ∀ j, j < l.length → okD (l.getD j 0)) (d : Nat) : ∀ i : Nat, i + d = l.length → Ev (fun k => spec_l01List.l0 k l (decs (l.take i)) (i : Int)) (decs l) := by
  induction d with
  | zero =>
    intro i hi
    refine Ev.shift ?_
    simp only [spec_l01List.l0]
    rw [List.take_of_length_le (by omega)]
    exact Ev.neg (by omega) (Ev.now _)
  | succ d ih =>
    intro i hi
    have w1 : wrap64 ((i : Int) + 1) = ((i + 1 : Nat) : Int) := by rw [wid (by omega)]; rfl
    have hy := okD_9 (h i (by omega))
    have hs := decs_size l h i (by omega)
    have d0 := sDec _ hy
    have z0 := dec_size _ hy
    have e44 : (⟨#[44]⟩ : ByteArray).size = 1 := rfl
    have ih' := ih (i + 1) (by omega)
    rw [takeI_snoc l i (by omega)] at ih'
    refine Ev.shift ?_
    simp only [spec_l01List.l0, rd_nat, w1]
    clear w1
    refine Ev.pos (by omega) ?_
    by_cases h0 : i = 0
    · subst h0
      rw [List.take_zero, List.nil_append, decs_one] at ih'
      rw [List.take_zero, decs_nil] at hs ⊢
      refine Ev.neg (by omega) (Ev.pos (by omega) (Ev.bind d0 (Ev.pos (by omega) ?_)))
      rw [show (⟨#[]⟩ : ByteArray) ++ dec (l.getD 0 0) = dec (l.getD 0 0) from ByteArray.empty_append]
      exact ih'
    · rw [decs_snoc _ (by intro e; have := congrArg List.length e; rw [List.length_take, List.length_nil] at this; omega)] at ih'
      exact Ev.pos (by omega) (Ev.pos (by omega) (Ev.pos (by omega) (Ev.bind d0 (Ev.pos (by rw [ByteArray.size_append]; omega) ih'))))
theorem sListText (l : List Int) (hl : l.length ≤ 1000) (h : ∀ j, j < l.length → okD (l.getD j 0)) : Ev (fun k => spec_l01List.f k l) (if l.length = 0 then (⟨#[45]⟩ : ByteArray) else decs l) := by
  unfold spec_l01List.f
  by_cases h0 : l.length = 0
  · rw [if_pos h0]; exact Ev.pos (by omega) (Ev.now _)
  · rw [if_neg h0]
    have := sList_l0 l hl h l.length 0 (by omega)
    rw [List.take_zero, decs_nil] at this
    exact Ev.neg (by omega) this
theorem iList_l0 (l : List Int) (hl : l.length ≤ 1000) (h : ∀ j, j < l.length → okD (l.getD j 0)) (d : Nat) : ∀ i : Nat, i + d = l.length → Ev (fun k => impl_ListText.l0 k ((l.take i).map dec) l (l.length : Int) (i : Int)) (decs l) := by
  induction d with
  | zero =>
    intro i hi
    have hs := decs_size l h l.length (Nat.le_refl _)
    rw [List.take_of_length_le (Nat.le_refl _)] at hs
    have hj : (Lib.join ((l.map dec).map (·.data.toList)) [44]).length ≤ 21 * l.length := hs
    refine Ev.shift ?_
    simp only [impl_ListText.l0]
    rw [List.take_of_length_le (by omega)]
    refine Ev.neg (by omega) ?_
    unfold strings_Join.f
    rw [if_pos ⟨by rw [List.length_map]; omega, by show (Lib.join ((l.map dec).map (·.data.toList)) [44]).length ≤ _; omega⟩]
    exact Ev.now _
  | succ d ih =>
    intro i hi
    have w1 : wrap64 ((i : Int) + 1) = ((i + 1 : Nat) : Int) := by rw [wid (by omega)]; rfl
    have hy := h i (by omega)
    have d0 := iDec _ (okD_9 hy)
    have ih' := ih (i + 1) (by omega)
    rw [takeI_snoc l i (by omega), List.map_append] at ih'
    refine Ev.shift ?_
    simp only [impl_ListText.l0, rd_nat, w1, d0, within_eq, Option.bind_some]
    clear w1
    have hy' : -1000000000000 ≤ l.getD i 0 ∧ l.getD i 0 ≤ 1000000000000 := ⟨by have := hy.1; omega, hy.2⟩
    exact Ev.pos (by omega) (Ev.pos (by omega) (Ev.pos (by omega) (Ev.pos (decide_eq_true hy') (Ev.pos (by rw [List.length_map, List.length_take]; omega) ih'))))
theorem iListText (l : List Int) (hl : l.length ≤ 64) (h : ∀ j, j < l.length → okD (l.getD j 0)) : Ev (fun k => impl_ListText.f k l) (if l.length = 0 then (⟨#[45]⟩ : ByteArray) else decs l) := by
  unfold impl_ListText.f
  by_cases h0 : l.length = 0
  · rw [if_pos h0]; exact Ev.neg (by omega) (Ev.pos (by omega) (Ev.now _))
  · rw [if_neg h0]
    have := iList_l0 l (by omega) h l.length 0 (by omega)
    rw [List.take_zero, List.map_nil] at this
    exact Ev.neg (by omega) (Ev.neg (by omega) (Ev.pos (by omega) (Ev.pos (by omega) this)))
def onsT (l : List Int) : ByteArray := if onsetsB l = true then (if l.length = 0 then (⟨#[45]⟩ : ByteArray) else decs l) else (⟨#[]⟩ : ByteArray)
theorem ons_ok {l : List Int} (h : onsetsB l = true) : ∀ j, j < l.length → okD (l.getD j 0) := fun j hj => by
  have := onsetsB_get h j hj
  exact ⟨this.1, by have := this.2; omega⟩
theorem onsS (l : List Int) (hl : l.length ≤ 35184372088832) : Ev (fun k => spec_OnsetsText.f k l) (onsT l) := by
  unfold spec_OnsetsText.f onsT
  refine Ev.bind (sOnsets l hl) ?_
  by_cases h : onsetsB l = true
  · have h48 := onsetsB_len h
    rw [if_pos h]
    exact Ev.pos h (Ev.bind (sListText l (by omega) (ons_ok h)) (Ev.now _))
  · rw [if_neg h]
    exact Ev.neg h (Ev.now _)
theorem onsI (l : List Int) (hl : l.length ≤ 35184372088832) : Ev (fun k => impl_OnsetsText.f k l) (onsT l) := by
  unfold impl_OnsetsText.f onsT
  refine Ev.bind (iOnsets l hl) ?_
  by_cases h : onsetsB l = true
  · have h48 := onsetsB_len h
    rw [if_pos h]
    exact Ev.pos h (Ev.bind (iListText l (by omega) (ons_ok h)) (Ev.now _))
  · rw [if_neg h]
    exact Ev.neg h (Ev.now _)
theorem FnExactOnsetsText : laws_FnExactOnsetsText.Pure := by
  intro l hm
  refine Ev.rounds (g := fun k => laws_FnExactOnsetsText.f k l) ?_
  unfold laws_FnExactOnsetsText.f
  by_cases hl : (l.length : Int) > 1048576
  · exact Ev.pos hl (Ev.now _)
  refine Ev.neg hl ?_
  have hl' : l.length ≤ 35184372088832 := by omega
  refine Ev.bind (toI l hl') (Ev.bind (onsS l hl') (Ev.bind (toI l hl') (Ev.bind (onsI l hl') (Ev.pos rfl ?_))))
  exact Ev.bind (toI l hl') (Ev.bind (eqI l hl') (Ev.pos rfl (Ev.now _)))

end Go.Proofs.YtpekclmaikcehaaDoor.Pure
