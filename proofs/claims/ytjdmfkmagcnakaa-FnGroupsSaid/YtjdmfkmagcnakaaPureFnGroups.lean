/- The pure statement of the law FnGroups: what the Go functions compute, told by plain Lean functions, is what the law asks, for all arguments. No condition beyond the printed ones. -/
import Derived.Test.YtjdmfkmagcnakaaPFnGroupsx6
import Derived.Test.YtjdmfkmagcnakaaXW
namespace Go.Proofs.Ytjdmfkmagcnakaa.Pure
open Go.RowKit Go.Proofs.Ytjdmfkmagcnakaa.PFnGroups Go.Proofs.YtjdmfkmagcnakaaW.PrintWords Go.Proofs.YtjdmfkmagcnakaaW.PrintLast Go.Proofs.YtjdmfkmagcnakaaW.PrintMore Go.Proofs.YtjdmfkmagcnakaaXW
set_option linter.unusedVariables false
set_option linter.unusedSimpArgs false
def risQ (l : List Int) (lo hi : Int) (j : Nat) : Bool := decide (lo ≤ l.getD j 0 ∧ l.getD j 0 ≤ hi) && (decide (j = 0) || decide (l.getD (j - 1) 0 < l.getD j 0))
theorem within_eq (a b c : Int) : impl_within.f a b c = some (decide (b ≤ a ∧ a ≤ c)) := by
  unfold impl_within.f; split <;> simp_all; omega
theorem allIn_eq (l : List Int) (a b : Int) : impl_allWithin.f l a b = some (l.all fun x => decide (a ≤ x ∧ x ≤ b)) := by
  unfold impl_allWithin.f
  rw [List.not_any_eq_all_not]
  congr 2
  funext x
  simp [allP]
def incQ (l : List Int) (j : Nat) : Bool := decide (l.getD (j - 1) 0 < l.getD j 0)
theorem inc_l0 (l : List Int) (hl : l.length ≤ 35184372088832) (d : Nat) : ∀ (i : Nat), 1 ≤ i → l.length ≤ i + d → Ev (fun k => impl_increasing.l0 k l i) (allF (incQ l) l.length i) := by
  induction d with
  | zero =>
    intro i h0 h1
    refine Ev.shift ?_
    simp only [impl_increasing.l0]
    exact Ev.neg (by omega) (Ev.some (by rw [allF_end _ (by omega)]))
  | succ d ih =>
    intro i h0 h1
    by_cases hi : i < l.length
    · refine Ev.shift ?_
      simp only [impl_increasing.l0]
      have e1 : wrap64 ((i : Int) - 1) = ((i - 1 : Nat) : Int) := by rw [wid (by omega)]; omega
      rw [e1, rd_nat, rd_nat]
      refine Ev.pos (by omega) (Ev.pos (by omega) (Ev.pos (by omega) (Ev.pos (by omega) ?_)))
      by_cases hc : l.getD (i - 1) 0 < l.getD i 0
      · refine Ev.neg (by omega) ?_
        rw [wid (by omega), allF_yes _ (by simp only [incQ]; simpa using hc)]
        exact ih (i + 1) (by omega) (by omega)
      · refine Ev.pos (by omega) (Ev.some ?_)
        rw [allF_no _ (by omega) (by simp only [incQ]; simpa using hc)]
    · refine Ev.shift ?_
      simp only [impl_increasing.l0]
      exact Ev.neg (by omega) (Ev.some (by rw [allF_end _ (by omega)]))
theorem inc_ev (l : List Int) (hl : l.length ≤ 35184372088832) : Ev (fun k => impl_increasing.f k l) (allF (incQ l) l.length 1) := by
  unfold impl_increasing.f
  exact inc_l0 l hl l.length 1 (by omega) (by omega)
/-- The one test is the two others. -/
theorem rises_inc (l : List Int) (lo hi : Int) : (allF (incQ l) l.length 1 && l.all fun x => decide (lo ≤ x ∧ x ≤ hi)) = allF (risQ l lo hi) l.length 0 := by
  rw [Bool.eq_iff_iff, Bool.and_eq_true, allF_iff, allF_iff, all_iff_get]
  constructor
  · rintro ⟨h1, h2⟩ j hj _
    simp only [risQ, Bool.and_eq_true, Bool.or_eq_true]
    refine ⟨h2 j hj, ?_⟩
    by_cases e : j = 0
    · left; simpa using e
    · right; exact h1 j hj (by omega)
  · intro h
    refine ⟨fun j hj h1 => ?_, fun j hj => ?_⟩
    · have := h j hj (by omega)
      simp only [risQ, Bool.and_eq_true, Bool.or_eq_true] at this
      rcases this.2 with e | e
      · simp at e; omega
      · exact e
    · have := h j hj (by omega)
      simp only [risQ, Bool.and_eq_true] at this
      exact this.1
def lensB (l : List Int) : Bool := decide (l.length ≤ 48) && l.all fun x => decide (1 ≤ x ∧ x ≤ 64)
def lenQ (l : List Int) (j : Nat) : Bool := decide (1 ≤ l.getD j 0 ∧ l.getD j 0 ≤ 64)
theorem lensB_len {l : List Int} (h : lensB l = true) : l.length ≤ 48 := by
  unfold lensB at h; simp only [Bool.and_eq_true, decide_eq_true_eq] at h; exact h.1
theorem lensB_get {l : List Int} (h : lensB l = true) (j : Nat) (hj : j < l.length) : 1 ≤ l.getD j 0 ∧ l.getD j 0 ≤ 64 := by
  unfold lensB at h; simp only [Bool.and_eq_true] at h
  have := (all_iff_get _ _).1 h.2 j hj
  exact of_decide_eq_true this
theorem iLens (l : List Int) : impl_lengthsOk.f l = some (lensB l) := by
  unfold impl_lengthsOk.f lensB
  rw [allIn_eq]
  by_cases h : l.length ≤ 48
  · rw [if_pos (by omega)]; simp [h]
  · rw [if_neg (by omega)]; simp [h]
theorem iLen1 (n : Int) : impl_lengthOk.f n = some (decide (1 ≤ n ∧ n ≤ 64)) := by
  unfold impl_lengthOk.f; rw [within_eq]; rfl
def partsB (l : List Int) : Bool := decide (1 ≤ l.length ∧ l.length ≤ 8) && allF (risQ l 1 24) l.length 0
theorem partsB_len {l : List Int} (h : partsB l = true) : 1 ≤ l.length ∧ l.length ≤ 8 := by
  unfold partsB at h; simp only [Bool.and_eq_true] at h; exact of_decide_eq_true h.1
theorem partsB_get {l : List Int} (h : partsB l = true) (j : Nat) (hj : j < l.length) : 1 ≤ l.getD j 0 ∧ l.getD j 0 ≤ 24 := by
  unfold partsB at h; simp only [Bool.and_eq_true] at h
  have := (allF_iff _).1 h.2 j hj (Nat.zero_le _)
  simp only [risQ, Bool.and_eq_true] at this
  exact of_decide_eq_true this.1
theorem partsB_lt {l : List Int} (h : partsB l = true) (j : Nat) (hj : j + 1 < l.length) : l.getD j 0 < l.getD (j + 1) 0 := by
  unfold partsB at h; simp only [Bool.and_eq_true] at h
  have := (allF_iff _).1 h.2 (j + 1) hj (Nat.zero_le _)
  simp only [risQ, Bool.and_eq_true, Bool.or_eq_true, Nat.add_sub_cancel] at this
  rcases this.2 with e | e
  · exact absurd (of_decide_eq_true e) (by omega)
  · exact of_decide_eq_true e
theorem iParts (l : List Int) (hl : l.length ≤ 35184372088832) : Ev (fun k => impl_partsOk.f k l) (partsB l) := by
  unfold impl_partsOk.f partsB
  by_cases h1 : 1 ≤ l.length
  · by_cases h2 : l.length ≤ 8
    · refine Ev.pos (by omega) (Ev.pos (by omega) (Ev.bind (inc_ev l hl) ?_))
      rw [← rises_inc, decide_eq_true (show 1 ≤ l.length ∧ l.length ≤ 8 from ⟨h1, h2⟩), Bool.true_and]
      simp only [allIn_eq, Option.bind_some]
      cases e : allF (incQ l) l.length 1
      · exact Ev.neg (by decide) (Ev.now _)
      · exact Ev.pos rfl (Ev.now _)
    · refine Ev.pos (by omega) (Ev.neg (by omega) (Ev.some ?_))
      rw [decide_eq_false (by omega), Bool.false_and]
  · refine Ev.neg (by omega) (Ev.some ?_)
    rw [decide_eq_false (by omega), Bool.false_and]
/-- what the parts from j on add to the n-th number -/
def addP (n : Nat) : List Int → List Int → List Int
  | [], B => B
  | p :: ps, B => addP n ps (if p ≤ n then B.set n (wrap64 (B.getD n 0 + B.getD (n - p.toNat) 0)) else B)
theorem addP_length (n : Nat) (ps : List Int) : ∀ B, (addP n ps B).length = B.length := by
  induction ps with
  | nil => intro B; rfl
  | cons p ps ih => intro B; rw [addP, ih]; split <;> simp
/-- the numbers of groupings of 0, 1 .. : after the rounds for n, n + 1, .. n + d - 1 -/
def waysF (ps : List Int) : Nat → Nat → List Int → List Int
  | _, 0, B => B
  | n, d + 1, B => waysF ps (n + 1) d (addP n ps B)
theorem waysF_length (ps : List Int) (d : Nat) : ∀ n B, (waysF ps n d B).length = B.length := by
  induction d with
  | zero => intro n B; rfl
  | succ d ih => intro n B; rw [waysF, ih, addP_length]
/-- the table of all: 25 numbers -/
def ways25 (ps : List Int) : List Int := waysF ps 1 24 ((List.replicate 25 0).set 0 1)
theorem ways25_length (ps : List Int) : (ways25 ps).length = 25 := by rw [ways25, waysF_length]; simp
theorem addP_take (n m : Nat) (hn : n < m) (ps : List Int) (hp : ∀ p ∈ ps, 1 ≤ p) : ∀ B : List Int, addP n ps (B.take m) = (addP n ps B).take m := by
  induction ps with
  | nil => intro B; rfl
  | cons p ps ih =>
    intro B
    have h1 := hp p (by simp)
    rw [addP, addP, ← ih (fun q hq => hp q (by simp [hq]))]
    congr 1
    split
    · rw [List.take_set]
      congr 2
      simp only [List.getD_eq_getElem?_getD, List.getElem?_take, if_pos hn, if_pos (show n - p.toNat < m by omega)]
    · rfl
theorem addP_far (n m : Nat) (hn : m ≤ n) (ps : List Int) : ∀ B : List Int, (addP n ps B).take m = B.take m := by
  induction ps with
  | nil => intro B; rfl
  | cons p ps ih =>
    intro B
    rw [addP, ih]
    split
    · rw [List.take_set_of_le hn]
    · rfl
theorem waysF_far (ps : List Int) (m : Nat) (d : Nat) : ∀ n B, m ≤ n → (waysF ps n d B).take m = B.take m := by
  induction d with
  | zero => intro n B h; rfl
  | succ d ih => intro n B h; rw [waysF, ih _ _ (by omega), addP_far _ _ h]
theorem waysF_take (ps : List Int) (hp : ∀ p ∈ ps, 1 ≤ p) (m : Nat) (d : Nat) : ∀ n B, n + d ≤ m → waysF ps n d (B.take m) = (waysF ps n d B).take m := by
  induction d with
  | zero => intro n B h; rfl
  | succ d ih => intro n B h; rw [waysF, waysF, ← ih _ _ (by omega), addP_take _ _ (by omega) _ hp]
theorem waysF_add (ps : List Int) (d e : Nat) : ∀ n B, waysF ps n (d + e) B = waysF ps (n + d) e (waysF ps n d B) := by
  induction d with
  | zero => intro n B; rw [Nat.zero_add]; rfl
  | succ d ih => intro n B; rw [show d + 1 + e = (d + e) + 1 by omega, waysF, ih, waysF]; congr 1; omega
theorem iWays_l1 (ps : List Int) (hl : ps.length ≤ 8) (hp : ∀ j, j < ps.length → 1 ≤ ps.getD j 0 ∧ ps.getD j 0 ≤ 24) (m : Int) (n : Nat) (hn : n ≤ 24) (r : List Int) (d : Nat) : ∀ (j : Nat) (B : List Int), j + d = ps.length → n < B.length → Ev (fun k => impl_groupingCounts.l0 k ps (addP n (ps.drop j) B) m ((n + 1 : Nat) : Int)) r → Ev (fun k => impl_groupingCounts.l1 k ps B n m n ps ps.length j) r := by
  induction d with
  | zero =>
    intro j B h1 h2 h3
    refine Ev.shift ?_
    simp only [impl_groupingCounts.l1]
    refine Ev.neg (by omega) ?_
    rw [List.drop_of_length_le (by omega)] at h3
    rw [wid (by omega)]
    exact h3
  | succ d ih =>
    intro j B h1 h2 h3
    have hj := hp j (by omega)
    have e : ps.drop j = ps.getD j 0 :: ps.drop (j + 1) := by
      rw [List.drop_eq_getElem_cons (by omega), List.getD_eq_getElem?_getD, List.getElem?_eq_getElem (by omega), Option.getD_some]
    rw [e, addP] at h3
    refine Ev.shift ?_
    simp only [impl_groupingCounts.l1]
    rw [rd_nat, wid (x := (j : Int) + 1) (by omega), wid (x := (n : Int) - ps.getD j 0) (by omega)]
    refine Ev.pos (by omega) (Ev.pos (by omega) (Ev.pos (by omega) ?_))
    by_cases c : ps.getD j 0 ≤ n
    · rw [if_pos c] at h3
      refine Ev.pos c (Ev.pos (by omega) (Ev.pos (by omega) (Ev.pos (by omega) (Ev.pos (by omega) ?_))))
      rw [Int.toNat_natCast, rd_nat, show (n : Int) - ps.getD j 0 = ((n - (ps.getD j 0).toNat : Nat) : Int) by omega, rd_nat]
      exact ih (j + 1) _ (by omega) (by rw [List.length_set]; exact h2) h3
    · rw [if_neg c] at h3
      refine Ev.neg c ?_
      exact ih (j + 1) _ (by omega) h2 h3
theorem iWays_l0 (ps : List Int) (hl : ps.length ≤ 8) (hp : ∀ j, j < ps.length → 1 ≤ ps.getD j 0 ∧ ps.getD j 0 ≤ 24) (d : Nat) : ∀ (n : Nat) (B : List Int), n + d = 25 → B.length = 25 → Ev (fun k => impl_groupingCounts.l0 k ps B 25 n) (waysF ps n d B) := by
  induction d with
  | zero =>
    intro n B h1 h2
    refine Ev.shift ?_
    simp only [impl_groupingCounts.l0]
    exact Ev.neg (by omega) (Ev.now _)
  | succ d ih =>
    intro n B h1 h2
    refine Ev.shift ?_
    simp only [impl_groupingCounts.l0]
    refine Ev.pos (by omega) ?_
    have h3 := ih (n + 1) (addP n ps B) (by omega) (by rw [addP_length]; exact h2)
    exact iWays_l1 ps hl hp 25 n (by omega) _ ps.length 0 B (by omega) (by omega) h3
theorem iWays (ps : List Int) (h : partsB ps = true) : Ev (fun k => impl_groupingCounts.f k ps) (ways25 ps) := by
  have hp := partsB_get h
  have hl := (partsB_len h).2
  unfold impl_groupingCounts.f
  refine Ev.pos (by omega) ?_
  simp only [Option.bind_some]
  refine Ev.pos (by simp) ?_
  have h0 : addP 0 ps ((List.replicate 25 (0 : Int)).set (0 : Int).toNat 1) = (List.replicate 25 (0 : Int)).set 0 1 := by
    have : ∀ (qs : List Int), (∀ p ∈ qs, 1 ≤ p) → ∀ B, addP 0 qs B = B := by
      intro qs
      induction qs with
      | nil => intro _ B; rfl
      | cons q qs ih =>
        intro hq B
        have := hq q (by simp)
        rw [addP, ih (fun p hp => hq p (by simp [hp])), if_neg (by omega)]
    refine this ps ?_ _
    intro p hpm
    obtain ⟨j, hj, rfl⟩ := List.getElem_of_mem hpm
    have := hp j hj
    rw [List.getD_eq_getElem?_getD, List.getElem?_eq_getElem hj, Option.getD_some] at this
    exact this.1
  have := iWays_l0 ps hl hp 25 0 ((List.replicate 25 (0 : Int)).set (0 : Int).toNat 1) (by omega) (by simp)
  simp only [List.length_set, List.length_replicate]
  refine Ev.same this ?_
  rw [waysF, h0, ways25]
/-- rising from above a number on, below a bound -/
def rfP (n : Int) : Int → List Int → Bool
  | _, [] => true
  | last, m :: ms => decide (last + 1 ≤ m ∧ m ≤ n - 1) && rfP n m ms
theorem partsB_rfP {l : List Int} (h : partsB l = true) : rfP 25 0 l = true := by
  have key : ∀ (f : List Int) (last : Int), (∀ j, j < f.length → last < f.getD j 0 ∧ f.getD j 0 ≤ 24) → (∀ j, j + 1 < f.length → f.getD j 0 < f.getD (j + 1) 0) → rfP 25 last f = true := by
    intro f
    induction f with
    | nil => intro last _ _; rfl
    | cons m ms ih =>
      intro last h1 h2
      rw [rfP, Bool.and_eq_true]
      have h0 : last < m ∧ m ≤ 24 := h1 0 (by simp)
      have hlt : ∀ j, j < ms.length → m < ms.getD j 0 := by
        intro j
        induction j with
        | zero => intro hj; exact h2 0 (by simpa using hj)
        | succ j ihj =>
          intro hj
          have a := ihj (by omega)
          have b : ms.getD j 0 < ms.getD (j + 1) 0 := h2 (j + 1) (by simpa using hj)
          omega
      exact ⟨decide_eq_true (by omega), ih m (fun j hj => ⟨hlt j hj, (h1 (j + 1) (by simpa using hj)).2⟩) (fun j hj => h2 (j + 1) (by simpa using hj))⟩
  refine key l 0 (fun j hj => ?_) (fun j hj => partsB_lt h j hj)
  have := partsB_get h j hj
  omega
/-- what the parts add up to -/
def sumP (n : Nat) (B : List Int) : List Int → Int
  | [] => 0
  | p :: ps => (if p ≤ n then B.getD (n - p.toNat) 0 else 0) + sumP n B ps
theorem sumP_bound (n : Nat) (B : List Int) (hB : ∀ j, j < n → 0 ≤ B.getD j 0 ∧ B.getD j 0 ≤ 2 ^ j) (ps : List Int) : ∀ last : Int, 0 ≤ last → rfP 25 last ps = true → 0 ≤ sumP n B ps ∧ sumP n B ps ≤ 2 ^ (n - last.toNat) := by
  induction ps with
  | nil => intro last _ _; simp only [sumP]; exact ⟨by omega, Int.le_of_lt (Int.pow_pos (by omega))⟩
  | cons p ps ih =>
    intro last h0 h
    rw [rfP, Bool.and_eq_true] at h
    have hp := of_decide_eq_true h.1
    have hr := ih p (by omega) h.2
    rw [sumP]
    by_cases c : p ≤ n
    · rw [if_pos c]
      have hb := hB (n - p.toNat) (by omega)
      refine ⟨by omega, ?_⟩
      have e : (2 : Int) ^ (n - p.toNat + 1) = 2 ^ (n - p.toNat) + 2 ^ (n - p.toNat) := by rw [Int.pow_succ]; omega
      have m : (2 : Int) ^ (n - p.toNat + 1) ≤ 2 ^ (n - last.toNat) := by
        have := Nat.pow_le_pow_right (n := 2) (by omega) (show n - p.toNat + 1 ≤ n - last.toNat by omega)
        exact_mod_cast this
      omega
    · rw [if_neg c]
      refine ⟨by omega, ?_⟩
      have m : (2 : Int) ^ (n - p.toNat) ≤ 2 ^ (n - last.toNat) := by
        have := Nat.pow_le_pow_right (n := 2) (by omega) (show n - p.toNat ≤ n - last.toNat by omega)
        exact_mod_cast this
      omega
theorem sumP_congr (n : Nat) (B B' : List Int) (hB : ∀ j, j < n → B.getD j 0 = B'.getD j 0) (ps : List Int) (hp : ∀ p ∈ ps, 1 ≤ p) : sumP n B ps = sumP n B' ps := by
  induction ps with
  | nil => rfl
  | cons p ps ih =>
    have h1 := hp p (by simp)
    rw [sumP, sumP, ih (fun q hq => hp q (by simp [hq]))]
    congr 1
    by_cases c : p ≤ n
    · rw [if_pos c, if_pos c]; exact hB _ (by omega)
    · rw [if_neg c, if_neg c]
theorem getD_set_self (B : List Int) (n : Nat) (v : Int) (h : n < B.length) : (B.set n v).getD n 0 = v := by
  rw [List.getD_eq_getElem?_getD, List.getElem?_set_self h, Option.getD_some]
theorem getD_set_ne (B : List Int) (n j : Nat) (v : Int) (h : n ≠ j) : (B.set n v).getD j 0 = B.getD j 0 := by
  rw [List.getD_eq_getElem?_getD, List.getElem?_set_ne h, ← List.getD_eq_getElem?_getD]
theorem rfP_pos {last : Int} {ps : List Int} (h0 : 0 ≤ last) (h : rfP 25 last ps = true) : ∀ p ∈ ps, 1 ≤ p ∧ p ≤ 24 := by
  induction ps generalizing last with
  | nil => intro p hp; cases hp
  | cons q qs ih =>
    rw [rfP, Bool.and_eq_true] at h
    have hq := of_decide_eq_true h.1
    intro p hp
    rcases List.mem_cons.1 hp with rfl | hp
    · omega
    · exact ih (by omega) h.2 p hp
theorem addP_sum (n : Nat) (hn : n ≤ 24) (ps : List Int) : ∀ (last : Int) (B : List Int), 0 ≤ last → rfP 25 last ps = true → n < B.length → (∀ j, j < n → 0 ≤ B.getD j 0 ∧ B.getD j 0 ≤ 2 ^ j) → 0 ≤ B.getD n 0 → B.getD n 0 + sumP n B ps ≤ 1000000000 →
    addP n ps B = B.set n (B.getD n 0 + sumP n B ps) := by
  induction ps with
  | nil =>
    intro last B _ _ hl _ _ _
    rw [addP, sumP, Int.add_zero]
    refine List.ext_getElem (by simp) (fun i h1 h2 => ?_)
    rw [List.getElem_set]
    split
    · rename_i e; subst e; rw [List.getD_eq_getElem?_getD, List.getElem?_eq_getElem h1, Option.getD_some]
    · rfl
  | cons p ps ih =>
    intro last B h0 h hl hB hs0 hs1
    have hpos := rfP_pos h0 h
    rw [rfP, Bool.and_eq_true] at h
    have hp := of_decide_eq_true h.1
    have hb2 := (sumP_bound n B hB ps p (by omega) h.2).1
    rw [addP, sumP]
    rw [sumP] at hs1
    by_cases c : p ≤ n
    · rw [if_pos c] at hs1 ⊢
      rw [if_pos c]
      have hbp := hB (n - p.toNat) (by omega)
      have hw : wrap64 (B.getD n 0 + B.getD (n - p.toNat) 0) = B.getD n 0 + B.getD (n - p.toNat) 0 := wid (by omega)
      rw [hw]
      have hB' : ∀ j, j < n → (B.set n (B.getD n 0 + B.getD (n - p.toNat) 0)).getD j 0 = B.getD j 0 := fun j hj => getD_set_ne _ _ _ _ (by omega)
      have hsum : sumP n (B.set n (B.getD n 0 + B.getD (n - p.toNat) 0)) ps = sumP n B ps := sumP_congr n _ _ hB' ps (fun q hq => (hpos q (by simp [hq])).1)
      rw [ih p _ (by omega) h.2 (by rw [List.length_set]; exact hl) (fun j hj => by rw [hB' j hj]; exact hB j hj) (by rw [getD_set_self _ _ _ hl]; omega) (by rw [getD_set_self _ _ _ hl, hsum]; omega), getD_set_self _ _ _ hl, hsum, List.set_set]
      congr 1; omega
    · rw [if_neg c] at hs1 ⊢
      rw [if_neg c]
      rw [ih p B (by omega) h.2 hl hB hs0 (by omega)]
      congr 1; omega
theorem pow24 (n : Nat) (h : n ≤ 24) : (2 : Int) ^ n ≤ 16777216 := by
  have h1 := Nat.pow_le_pow_right (n := 2) (by omega) h
  have h2 : (2 : Nat) ^ 24 = 16777216 := by decide
  rw [h2] at h1
  have h3 : ((2 ^ n : Nat) : Int) ≤ ((16777216 : Nat) : Int) := Int.ofNat_le.2 h1
  rw [Int.natCast_pow] at h3
  exact h3
/-- the rounds till n: exact so far, zeros behind -/
theorem waysF_inv (ps : List Int) (h : rfP 25 0 ps = true) (d : Nat) : ∀ (n : Nat) (B : List Int), n + d ≤ 25 → B.length = 25 → B.getD 0 0 = 1 → (∀ j, j < n → 0 ≤ B.getD j 0 ∧ B.getD j 0 ≤ 2 ^ j) → (∀ j, 1 ≤ j → j < n → B.getD j 0 = sumP j B ps) → (∀ j, n ≤ j → j < 25 → B.getD j 0 = 0) → 1 ≤ n →
    (waysF ps n d B).getD 0 0 = 1 ∧ (∀ j, j < n + d → 0 ≤ (waysF ps n d B).getD j 0 ∧ (waysF ps n d B).getD j 0 ≤ 2 ^ j) ∧ (∀ j, 1 ≤ j → j < n + d → (waysF ps n d B).getD j 0 = sumP j (waysF ps n d B) ps) := by
  induction d with
  | zero => intro n B h1 h2 h3 h4 h5 h6 h7; exact ⟨h3, h4, h5⟩
  | succ d ih =>
    intro n B h1 h2 h3 h4 h5 h6 h7
    have hpos := rfP_pos (by omega) h
    have hz := h6 n (by omega) (by omega)
    have hb := sumP_bound n B h4 ps 0 (by omega) h
    rw [show n - (0 : Int).toNat = n from rfl] at hb
    have hb3 : sumP n B ps ≤ 16777216 := Int.le_trans hb.2 (pow24 n (by omega))
    have e := addP_sum n (by omega) ps 0 B (by omega) h (by omega) h4 (by omega) (by rw [hz, Int.zero_add]; clear hb; omega)
    rw [hz, Int.zero_add] at e
    rw [waysF, e, show n + (d + 1) = n + 1 + d by omega]
    have hne : ∀ j, j ≠ n → (B.set n (sumP n B ps)).getD j 0 = B.getD j 0 := fun j hj => getD_set_ne _ _ _ _ (Ne.symm hj)
    have hse : (B.set n (sumP n B ps)).getD n 0 = sumP n B ps := getD_set_self _ _ _ (by omega)
    have hcg : ∀ j, j ≤ n → sumP j (B.set n (sumP n B ps)) ps = sumP j B ps := fun j hj => sumP_congr j _ _ (fun i hi => hne i (by omega)) ps (fun q hq => (hpos q hq).1)
    refine ih (n + 1) _ (by omega) (by rw [List.length_set]; exact h2) (by rw [hne 0 (by omega)]; exact h3) (fun j hj => ?_) (fun j hj1 hj => ?_) (fun j hj hj2 => ?_) (by omega)
    · by_cases c : j = n
      · rw [c, hse]; exact hb
      · rw [hne j c]; exact h4 j (by omega)
    · by_cases c : j = n
      · rw [c, hse, hcg n (by omega)]
      · rw [hne j c, hcg j (by omega)]; exact h5 j hj1 (by omega)
    · rw [hne j (by omega)]; exact h6 j (by omega) hj2
theorem ways25_exact (ps : List Int) (h : partsB ps = true) : (ways25 ps).getD 0 0 = 1 ∧ (∀ j, j ≤ 24 → 0 ≤ (ways25 ps).getD j 0 ∧ (ways25 ps).getD j 0 ≤ 2 ^ j) ∧ (∀ j, 1 ≤ j → j ≤ 24 → (ways25 ps).getD j 0 = sumP j (ways25 ps) ps) := by
  have hz : ∀ j, 1 ≤ j → j < 25 → ((List.replicate 25 (0 : Int)).set 0 1).getD j 0 = 0 := by
    intro j h1 h2
    rw [getD_set_ne _ _ _ _ (by omega), List.getD_eq_getElem?_getD, List.getElem?_replicate, if_pos h2, Option.getD_some]
  obtain ⟨a, b, c⟩ := waysF_inv ps (partsB_rfP h) 24 1 ((List.replicate 25 0).set 0 1) (by omega) (by simp) (getD_set_self _ _ _ (by simp)) (fun j hj => by rw [show j = 0 by omega, getD_set_self _ _ _ (by simp)]; decide) (fun j h1 h2 => by omega) (fun j h1 h2 => hz j h1 h2) (by omega)
  exact ⟨a, fun j hj => b j (by omega), fun j h1 hj => c j h1 (by omega)⟩
theorem ways25_bd (ps : List Int) (h : partsB ps = true) (j : Nat) (hj : j ≤ 24) : 0 ≤ (ways25 ps).getD j 0 ∧ (ways25 ps).getD j 0 ≤ 16777216 := by
  have h1 := (ways25_exact ps h).2.1 j hj
  exact ⟨h1.1, Int.le_trans h1.2 (pow24 j hj)⟩
theorem sumP_le (u : Nat) (hu : u ≤ 24) (ps : List Int) (h : partsB ps = true) (qs : List Int) : (∀ p ∈ qs, 1 ≤ p ∧ p ≤ 24) → 0 ≤ sumP u (ways25 ps) qs ∧ sumP u (ways25 ps) qs ≤ qs.length * 16777216 := by
  induction qs with
  | nil => intro _; simp [sumP]
  | cons q qs ih =>
    intro hq
    have a1 := ih (fun p hp => hq p (by simp [hp]))
    have a2 := hq q (by simp)
    rw [sumP, List.length_cons]
    have a3 : 0 ≤ (if q ≤ (u : Int) then (ways25 ps).getD (u - q.toNat) 0 else 0) ∧ (if q ≤ (u : Int) then (ways25 ps).getD (u - q.toNat) 0 else 0) ≤ 16777216 := by
      split
      · exact ways25_bd ps h _ (by omega)
      · omega
    omega
/-- of neighbours that are the same, one -/
def dd : List Int → List Int
  | a :: b :: r => if a = b then dd (b :: r) else a :: dd (b :: r)
  | l => l
theorem dd_snoc (l : List Int) (x : Int) : dd (l ++ [x]) = dd l ++ (if l.getLast? = some x then [] else [x]) := by
  induction l with
  | nil => rfl
  | cons a r ih =>
    cases r with
    | nil =>
      show dd [a, x] = [a] ++ _
      simp only [dd]
      by_cases h : a = x
      · rw [if_pos h, if_pos (by simp [h]), h]; rfl
      · rw [if_neg h, if_neg (by simpa using h)]; rfl
    | cons b r =>
      show dd (a :: b :: (r ++ [x])) = _
      simp only [dd]
      rw [show (a :: b :: r).getLast? = (b :: r).getLast? from List.getLast?_cons_cons]
      by_cases h : a = b
      · rw [if_pos h, if_pos h]; exact ih
      · rw [if_neg h, if_neg h, List.cons_append]; congr 1
theorem dd_take (T : List Int) : ∀ m, m ≤ T.length → Lib.compactUpTo T.toArray m = dd (T.take m) := by
  intro m
  induction m with
  | zero => intro _; simp [Lib.compactUpTo, dd]
  | succ m ih =>
    intro h
    rw [List.take_add_one, List.getElem?_eq_getElem (by omega), Option.toList_some, dd_snoc, ← ih (by omega)]
    simp only [Lib.compactUpTo]
    rw [List.range_succ, List.filter_append, List.map_append]
    congr 1
    have e1 : T.toArray[m]! = T[m] := by simp [show m < T.length by omega]
    simp only [List.filter_cons, List.filter_nil, Lib.keeps, e1]
    cases m with
    | zero => simp [List.getElem?_eq_getElem (show 0 < T.length by omega)]
    | succ m =>
      have e2 : T.toArray[m]! = T[m] := by simp [show m < T.length by omega]
      have e3 : (T.take (m + 1)).getLast? = some T[m] := by rw [List.take_add_one, List.getElem?_eq_getElem (by omega), Option.toList_some, List.getLast?_concat]
      rw [e3]
      simp only [Nat.add_sub_cancel, e2]
      by_cases h : T[m] = T[m + 1]
      · have hk : decide (m + 1 = 0 ∨ T[m + 1] ≠ T[m]) = false := decide_eq_false (by intro q; rcases q with q | q; omega; exact q h.symm)
        rw [hk, if_neg (by simp), if_pos (by rw [h])]; rfl
      · have hk : decide (m + 1 = 0 ∨ T[m + 1] ≠ T[m]) = true := decide_eq_true (.inr (Ne.symm h))
        rw [hk, if_pos rfl, if_neg (by simpa using h)]; simp [show m + 1 < T.length by omega]
theorem compact_dd (T : List Int) : Lib.compact T = dd T := by
  have := dd_take T T.length (Nat.le_refl _)
  rwa [List.take_length] at this
theorem dd_nil {T : List Int} : dd T = [] ↔ T = [] := by
  constructor
  · intro h
    induction T with
    | nil => rfl
    | cons a r ih =>
      cases r with
      | nil => simp [dd] at h
      | cons b r =>
        simp only [dd] at h
        split at h
        · exact absurd (ih h) (by simp)
        · simp at h
  · rintro rfl; rfl
theorem dd_one {T : List Int} {x : Int} : dd T = [x] ↔ T ≠ [] ∧ ∀ y ∈ T, y = x := by
  induction T with
  | nil => simp [dd]
  | cons a r ih =>
    cases r with
    | nil => simp [dd]
    | cons b r =>
      simp only [dd]
      by_cases h : a = b
      · subst h
        rw [if_pos rfl, ih]; simp
      · rw [if_neg h]
        constructor
        · intro e
          have := (List.cons.inj e).2
          exact absurd (dd_nil.1 this) (by simp)
        · rintro ⟨_, e⟩
          exact absurd ((e a (by simp)).trans (e b (by simp)).symm) h
def okT (T : List Int) (t : Nat) (x y : Int) : Prop := ∀ j, j < T.length → T.getD j 0 = if j < t then x else y
theorem okT_cons {a : Int} {r : List Int} {t : Nat} {x y : Int} : okT (a :: r) (t + 1) x y ↔ a = x ∧ okT r t x y := by
  constructor
  · intro h
    refine ⟨by simpa using h 0 (by simp), fun j hj => ?_⟩
    have := h (j + 1) (by simpa using hj)
    simpa using this
  · rintro ⟨rfl, h⟩ j hj
    cases j with
    | zero => simp
    | succ j => simpa using h j (by simpa using hj)
theorem okT_zero {r : List Int} {x y : Int} : okT r 0 x y ↔ ∀ z ∈ r, z = y := by
  constructor
  · intro h z hz
    obtain ⟨j, hj, e⟩ := List.getElem_of_mem hz
    have := h j hj
    rw [if_neg (by omega), List.getD_eq_getElem?_getD, List.getElem?_eq_getElem hj, Option.getD_some] at this
    rw [← e]; exact this
  · intro h j hj
    rw [if_neg (by omega), List.getD_eq_getElem?_getD, List.getElem?_eq_getElem hj, Option.getD_some]
    exact h _ (List.getElem_mem hj)
theorem dd_two {T : List Int} {x y : Int} (hxy : x ≠ y) : dd T = [x, y] ↔ ∃ t, 1 ≤ t ∧ t < T.length ∧ okT T t x y := by
  induction T with
  | nil => simp [dd]
  | cons a r ih =>
    cases r with
    | nil => simp only [dd, List.length_singleton]; constructor
             · intro h; simp at h
             · rintro ⟨t, h1, h2, _⟩; omega
    | cons b r =>
      simp only [dd]
      by_cases h : a = b
      · subst h
        rw [if_pos rfl, ih]
        constructor
        · rintro ⟨t, h1, h2, h3⟩
          refine ⟨t + 1, by omega, by simpa using h2, okT_cons.2 ⟨?_, h3⟩⟩
          have := h3 0 (by simp)
          rw [if_pos (by omega)] at this; simpa using this
        · rintro ⟨t, h1, h2, h3⟩
          obtain ⟨t, rfl⟩ : ∃ u, t = u + 1 := ⟨t - 1, by omega⟩
          obtain ⟨e, h4⟩ := okT_cons.1 h3
          refine ⟨t, ?_, by simpa using h2, h4⟩
          rcases Nat.eq_zero_or_pos t with rfl | h
          · exact absurd ((okT_zero.1 h4 a (by simp)).symm.trans e).symm hxy
          · exact h
      · rw [if_neg h]
        constructor
        · intro e
          obtain ⟨e1, e2⟩ := List.cons.inj e
          exact ⟨1, Nat.le_refl _, by simp, okT_cons.2 ⟨e1, okT_zero.2 (dd_one.1 e2).2⟩⟩
        · rintro ⟨t, h1, h2, h3⟩
          obtain ⟨t, rfl⟩ : ∃ u, t = u + 1 := ⟨t - 1, by omega⟩
          obtain ⟨e, h4⟩ := okT_cons.1 h3
          rcases Nat.eq_zero_or_pos t with rfl | ht
          · rw [e, dd_one.2 ⟨by simp, okT_zero.1 h4⟩]
          · obtain ⟨t, rfl⟩ : ∃ u, t = u + 1 := ⟨t - 1, by omega⟩
            exact absurd (e.trans (okT_cons.1 h4).1.symm) h
/-- the shape of neighbours' signs -/
def shapeF (t : List Int) : Int := if t = [] ∨ t = [0] then 1 else if t = [1] then 2 else if t = [-1] then 3 else if t = [1, -1] then 4 else if t = [-1, 1] then 5 else 0
def shapeR (t : List Int) : Int × Int := if shapeF t = 0 then (0, 3) else (shapeF t, 0)
def sgn (a b : Int) : Int := if a < b then -1 else if a > b then 1 else 0
def turnsL (l : List Int) : List Int := (List.range (l.length - 1)).map fun j => sgn (l.getD (j + 1) 0) (l.getD j 0)
theorem turnsL_length (l : List Int) : (turnsL l).length = l.length - 1 := by simp [turnsL]
theorem turnsL_get (l : List Int) (j : Nat) (h : j + 1 < l.length) : (turnsL l).getD j 0 = sgn (l.getD (j + 1) 0) (l.getD j 0) := by
  unfold turnsL
  rw [List.getD_eq_getElem?_getD, List.getElem?_eq_getElem (by simp; omega)]
  simp
theorem eqII_l0 (a b : List Int) (he : a.length = b.length) (hl : a.length ≤ 35184372088832) (d : Nat) : ∀ (i : Nat), i + d = a.length → Ev (fun k => slices_Equal_int_int.l0 k a b a.length i) (decide (a.drop i = b.drop i)) := by
  induction d with
  | zero =>
    intro i h
    refine Ev.shift ?_
    simp only [slices_Equal_int_int.l0]
    refine Ev.neg (by omega) (Ev.some ?_)
    rw [List.drop_of_length_le (by omega), List.drop_of_length_le (by omega)]; simp
  | succ d ih =>
    intro i h
    refine Ev.shift ?_
    simp only [slices_Equal_int_int.l0]
    refine Ev.pos (by omega) (Ev.pos (by omega) (Ev.pos (by omega) (Ev.pos (by omega) ?_)))
    have ea : a.drop i = a[i] :: a.drop (i + 1) := List.drop_eq_getElem_cons (by omega)
    have eb : b.drop i = b[i] :: b.drop (i + 1) := List.drop_eq_getElem_cons (by omega)
    rw [rd_nat, rd_nat, wid (by omega), ea, eb, List.getD_eq_getElem?_getD, List.getD_eq_getElem?_getD, List.getElem?_eq_getElem (by omega), List.getElem?_eq_getElem (by omega), Option.getD_some, Option.getD_some]
    by_cases c : a[i] = b[i]
    · refine Ev.pos c (Ev.same (ih (i + 1) (by omega)) ?_)
      rw [decide_eq_decide]
      exact ⟨fun h => by rw [c, h], fun h => (List.cons.inj h).2⟩
    · exact Ev.neg c (Ev.some (by rw [decide_eq_false (fun h => c (List.cons.inj h).1)]))
theorem eqII (a b : List Int) (hl : a.length ≤ 35184372088832) : Ev (fun k => slices_Equal_int_int.f k a b) (decide (a = b)) := by
  unfold slices_Equal_int_int.f
  by_cases he : a.length = b.length
  · refine Ev.pos (by omega) ?_
    have := eqII_l0 a b he hl a.length 0 (by omega)
    rwa [List.drop_zero, List.drop_zero] at this
  · refine Ev.neg (by omega) (Ev.some ?_)
    rw [decide_eq_false (fun e => he (by rw [e]))]
theorem cmpI (a b : Int) : cmp_Compare_int64.f a b = some (sgn a b) := by
  unfold cmp_Compare_int64.f cmp_isNaN_int64.f sgn
  simp only [bne_self_eq_false, Option.bind_some, Bool.false_eq_true, if_false]
  by_cases h : a < b
  · rw [if_pos h, if_pos h]
  · rw [if_neg h, if_neg h]
    by_cases h2 : a > b
    · rw [if_pos h2, if_pos h2]
    · rw [if_neg h2, if_neg h2]
theorem shape_j1 (t : List Int) (hl : t.length ≤ 35184372088832) (b : Bool) (hb : b = true ↔ t = [] ∨ t = [0]) : Ev (fun k => impl_ShapeOf.j1 k t b) (shapeR t) := by
  refine Ev.shift ?_
  simp only [impl_ShapeOf.j1]
  by_cases h : t = [] ∨ t = [0]
  · refine Ev.pos (hb.2 h) (Ev.some ?_)
    unfold shapeR shapeF; rw [if_pos h]; rfl
  refine Ev.neg (fun e => h (hb.1 e)) ?_
  refine Ev.bind (eqII t [1] hl) ?_
  by_cases h1 : t = [1]
  · refine Ev.pos (by simp [h1]) (Ev.some ?_)
    unfold shapeR shapeF; rw [if_neg h, if_pos h1]; rfl
  refine Ev.neg (by simp [h1]) (Ev.bind (eqII t [-1] hl) ?_)
  by_cases h2 : t = [-1]
  · refine Ev.pos (by simp [h2]) (Ev.some ?_)
    unfold shapeR shapeF; rw [if_neg h, if_neg h1, if_pos h2]; rfl
  refine Ev.neg (by simp [h2]) (Ev.bind (eqII t [1, -1] hl) ?_)
  by_cases h3 : t = [1, -1]
  · refine Ev.pos (by simp [h3]) (Ev.some ?_)
    unfold shapeR shapeF; rw [if_neg h, if_neg h1, if_neg h2, if_pos h3]; rfl
  refine Ev.neg (by simp [h3]) (Ev.bind (eqII t [-1, 1] hl) ?_)
  by_cases h4 : t = [-1, 1]
  · refine Ev.pos (by simp [h4]) (Ev.some ?_)
    unfold shapeR shapeF; rw [if_neg h, if_neg h1, if_neg h2, if_neg h3, if_pos h4]; rfl
  refine Ev.neg (by simp [h4]) (Ev.some ?_)
  unfold shapeR shapeF; rw [if_neg h, if_neg h1, if_neg h2, if_neg h3, if_neg h4]; rfl
theorem dd_len (T : List Int) : (dd T).length ≤ T.length := by
  induction T with
  | nil => simp [dd]
  | cons a r ih =>
    cases r with
    | nil => simp [dd]
    | cons b r =>
      simp only [dd]
      split
      · simp only [List.length_cons] at ih ⊢; omega
      · simp only [List.length_cons] at ih ⊢; omega
theorem iShape_l0 (l : List Int) (hl : l.length ≤ 48) (d : Nat) : ∀ (i : Nat), 1 ≤ i → l.length ≤ i + d → (i ≤ l.length ∨ i = 1) →
    Ev (fun k => impl_ShapeOf.l0 k l ((List.range (i - 1)).map fun j => sgn (l.getD (j + 1) 0) (l.getD j 0)) i) (shapeR (dd (turnsL l))) := by
  have fin : ∀ i : Nat, 1 ≤ i → l.length ≤ i → (i ≤ l.length ∨ i = 1) → Ev (fun k => impl_ShapeOf.l0 k l ((List.range (i - 1)).map fun j => sgn (l.getD (j + 1) 0) (l.getD j 0)) i) (shapeR (dd (turnsL l))) := by
    intro i h1 h2 h3
    have e : ((List.range (i - 1)).map fun j => sgn (l.getD (j + 1) 0) (l.getD j 0)) = turnsL l := by
      unfold turnsL; congr 2; omega
    rw [e]
    have hT := turnsL_length l
    refine Ev.shift ?_
    simp only [impl_ShapeOf.l0]
    refine Ev.neg (by omega) ?_
    unfold slices_Compact_int_int.f
    rw [if_pos (by omega), compact_dd]
    simp only [Option.bind_some]
    have hd := dd_len (turnsL l)
    by_cases h0 : dd (turnsL l) = []
    · refine Ev.pos (by rw [h0]; rfl) ?_
      exact shape_j1 _ (by omega) true (by simp [h0])
    · refine Ev.neg (fun e => h0 (List.eq_nil_of_length_eq_zero (by omega))) ?_
      refine Ev.bind (eqII _ [0] (by omega)) ?_
      exact shape_j1 _ (by omega) _ (by simp [h0])
  induction d with
  | zero => intro i h1 h2 h3; exact fin i h1 h2 h3
  | succ d ih =>
    intro i h1 h2 h3
    by_cases hi : i < l.length
    · refine Ev.shift ?_
      simp only [impl_ShapeOf.l0]
      rw [show wrap64 ((i : Int) - 1) = ((i - 1 : Nat) : Int) by rw [wid (by omega)]; omega]
      refine Ev.pos (by omega) (Ev.pos (by omega) (Ev.pos (by omega) (Ev.pos (by omega) ?_)))
      rw [cmpI, rd_nat, rd_nat]
      simp only [Option.bind_some]
      refine Ev.pos (by simp; omega) ?_
      rw [wid (by omega)]
      have := ih (i + 1) (by omega) (by omega) (by omega)
      rw [Nat.add_sub_cancel] at this
      have e : (List.range i).map (fun j => sgn (l.getD (j + 1) 0) (l.getD j 0)) = ((List.range (i - 1)).map fun j => sgn (l.getD (j + 1) 0) (l.getD j 0)) ++ [sgn (l.getD i 0) (l.getD (i - 1) 0)] := by
        conv => lhs; rw [show i = (i - 1) + 1 by omega]
        rw [List.range_succ, List.map_append, List.map_singleton, show i - 1 + 1 = i by omega]
      rw [e] at this
      exact this
    · exact fin i h1 (by omega) h3
/-- the sum of a list -/
def sumL : List Int → Int
  | [] => 0
  | x :: l => x + sumL l
def gOk (ps : List Int) : Int → List Int → Bool
  | _, [] => true
  | s, x :: l => decide (x ∈ ps) && (decide (s + x ≤ 24) && gOk ps (s + x) l)
theorem consD (g : List Int) (i : Nat) (h : i < g.length) : g.drop i = g.getD i 0 :: g.drop (i + 1) := by
  rw [List.drop_eq_getElem_cons h, List.getD_eq_getElem?_getD, List.getElem?_eq_getElem h]; rfl
theorem memD (g : List Int) (i : Nat) (h : i < g.length) : g.getD i 0 ∈ g := by
  rw [List.getD_eq_getElem?_getD, List.getElem?_eq_getElem h]; exact List.getElem_mem h
theorem sumL_pos (l : List Int) (h : ∀ x ∈ l, 1 ≤ x) : (l.length : Int) ≤ sumL l := by
  induction l with
  | nil => exact Int.le_refl _
  | cons x l ih =>
    have h1 := h x (by simp)
    have h2 := ih (fun y hy => h y (by simp [hy]))
    rw [sumL, List.length_cons]
    omega
theorem gOk_iff (ps : List Int) (hp : ∀ p ∈ ps, 1 ≤ p ∧ p ≤ 24) (l : List Int) : ∀ s, s ≤ 24 → (gOk ps s l = true ↔ (∀ x ∈ l, x ∈ ps) ∧ s + sumL l ≤ 24) := by
  induction l with
  | nil => intro s h; simp [gOk, sumL, h]
  | cons x l ih =>
    intro s h
    rw [gOk, Bool.and_eq_true, Bool.and_eq_true, decide_eq_true_iff, decide_eq_true_iff, sumL]
    constructor
    · rintro ⟨h1, h2, h3⟩
      obtain ⟨a, b⟩ := (ih (s + x) h2).1 h3
      refine ⟨fun y hy => ?_, by omega⟩
      rcases List.mem_cons.1 hy with e | e
      · rw [e]; exact h1
      · exact a y e
    · rintro ⟨a, b⟩
      have h1 := a x (by simp)
      have h2 := sumL_pos l (fun y hy => (hp y (a y (by simp [hy]))).1)
      have h3 : s + x ≤ 24 := by omega
      exact ⟨h1, h3, (ih (s + x) h3).2 ⟨fun y hy => a y (by simp [hy]), by omega⟩⟩
theorem iHas_l0 (l : List Int) (n : Int) (hl : l.length ≤ 35184372088832) (d : Nat) : ∀ (i : Nat), i + d = l.length → ∃ t : Int, (decide (t ≥ 0) = decide (n ∈ l.drop i)) ∧ Ev (fun k => slices_Index_int64_int64.l0 k l n (l.length : Int) i) t := by
  induction d with
  | zero =>
    intro i h1
    refine ⟨-1, by rw [List.drop_of_length_le (by omega)]; simp, Ev.shift ?_⟩
    simp only [slices_Index_int64_int64.l0]
    exact Ev.neg (by omega) (Ev.now _)
  | succ d ih =>
    intro i h1
    have p1 : (i : Int) < (l.length : Int) := by omega
    rw [consD l i (by omega)]
    by_cases h : n = l.getD i 0
    · refine ⟨i, by rw [decide_eq_decide, List.mem_cons]; exact ⟨fun _ => Or.inl h, fun _ => Int.natCast_nonneg _⟩, Ev.shift ?_⟩
      simp only [slices_Index_int64_int64.l0, rd_nat]
      exact Ev.pos p1 (Ev.pos (Int.natCast_nonneg _) (Ev.pos p1 (Ev.pos h (Ev.now _))))
    · obtain ⟨t, a, b⟩ := ih (i + 1) (by omega)
      refine ⟨t, by rw [a, decide_eq_decide, List.mem_cons]; exact ⟨fun h2 => Or.inr h2, fun h2 => h2.elim (fun e => absurd e h) id⟩, Ev.shift ?_⟩
      have w1 : wrap64 ((i : Int) + 1) = ((i + 1 : Nat) : Int) := by rw [wid (by omega)]; rfl
      simp only [slices_Index_int64_int64.l0, rd_nat, w1]
      exact Ev.pos p1 (Ev.pos (Int.natCast_nonneg _) (Ev.pos p1 (Ev.neg h b)))
theorem iHas (l : List Int) (n : Int) (hl : l.length ≤ 35184372088832) : Ev (fun k => slices_Contains_int64_int64.f k l n) (decide (n ∈ l)) := by
  obtain ⟨t, a, b⟩ := iHas_l0 l n hl l.length 0 (by omega)
  unfold slices_Contains_int64_int64.f
  refine Ev.bind b (Ev.same (Ev.now _) ?_)
  rw [a]; rfl
theorem iGroup_l0 (ps g : List Int) (hp : ∀ p ∈ ps, 1 ≤ p ∧ p ≤ 24) (hl : ps.length ≤ 8) (hg : g.length ≤ 35184372088832) (T : Int) (R : Int × Int) (hN : Ev (fun k => (impl_groupingCounts.f k ps).bind fun t => impl_GroupingNumber.l1 k ps T t 0 g (g.length : Int) 0) R) (d : Nat) :
    ∀ (i : Nat) (s : Int), i + d = g.length → 0 ≤ s ∧ s ≤ 24 → (gOk ps s (g.drop i) = true → s + sumL (g.drop i) = T) → Ev (fun k => impl_GroupingNumber.l0 k ps g s g (g.length : Int) i) (if gOk ps s (g.drop i) = true then R else (0, 6)) := by
  induction d with
  | zero =>
    intro i s h1 h2 h3
    rw [List.drop_of_length_le (by omega)] at h3 ⊢
    have e := h3 rfl
    rw [sumL, Int.add_zero] at e
    subst e
    refine Ev.shift ?_
    simp only [impl_GroupingNumber.l0]
    rw [gOk, if_pos rfl]
    exact Ev.neg (by omega) hN
  | succ d ih =>
    intro i s h1 h2 h3
    have p1 : (i : Int) < (g.length : Int) := by omega
    have w1 := Aside0.mk (show wrap64 ((i : Int) + 1) = ((i + 1 : Nat) : Int) from by rw [wid (by omega)]; rfl)
    have hs := iHas ps (g.getD i 0) (by omega)
    rw [consD g i (by omega), gOk] at h3 ⊢
    refine Ev.shift ?_
    simp only [impl_GroupingNumber.l0, rd_nat, w1.out]
    refine Ev.pos p1 (Ev.pos (Int.natCast_nonneg _) (Ev.pos p1 (Ev.bind hs ?_)))
    by_cases h : g.getD i 0 ∈ ps
    · have hb := hp _ h
      have w2 := Aside0.mk (show wrap64 (s + g.getD i 0) = s + g.getD i 0 from wid (by omega))
      refine Ev.pos (decide_eq_true h) ?_
      rw [w2.out]
      rw [decide_eq_true h, Bool.true_and] at h3 ⊢
      by_cases h4 : s + g.getD i 0 ≤ 24
      · rw [decide_eq_true h4, Bool.true_and] at h3 ⊢
        refine Ev.neg (by omega) (ih (i + 1) (s + g.getD i 0) (by omega) (by omega) (fun q => ?_))
        have := h3 q
        rw [sumL] at this
        omega
      · rw [decide_eq_false h4, Bool.false_and, if_neg (by decide)]
        exact Ev.pos (by omega) (Ev.now _)
    · rw [decide_eq_false h, Bool.false_and, if_neg (by decide)]
      exact Ev.neg (by decide) (Ev.now _)
theorem partsB_mem {ps : List Int} (h : partsB ps = true) : ∀ p ∈ ps, 1 ≤ p ∧ p ≤ 24 := by
  intro p hp
  obtain ⟨j, hj, rfl⟩ := List.getElem_of_mem hp
  have := partsB_get h j hj
  rwa [List.getD_eq_getElem?_getD, List.getElem?_eq_getElem hj] at this
/-! numbers of groupings -/
def belowS (n : Nat) (B : List Int) (x : Int) : List Int → Int
  | [] => 0
  | p :: qs => (if p < x ∧ p ≤ (n : Int) then B.getD (n - p.toNat) 0 else 0) + belowS n B x qs
def rankL (ps : List Int) : Nat → List Int → Int
  | _, [] => 0
  | u, x :: r => belowS u (ways25 ps) x ps + rankL ps (u - x.toNat) r
theorem belowS_bd (ps : List Int) (h : partsB ps = true) (n : Nat) (hn : n ≤ 24) (x : Int) (qs : List Int) : (∀ p ∈ qs, 1 ≤ p ∧ p ≤ 24) → 0 ≤ belowS n (ways25 ps) x qs ∧ belowS n (ways25 ps) x qs ≤ qs.length * 16777216 := by
  induction qs with
  | nil => intro _; simp [belowS]
  | cons q qs ih =>
    intro hq
    have a1 := ih (fun p hp => hq p (by simp [hp]))
    have a2 := hq q (by simp)
    rw [belowS, List.length_cons]
    have a3 : 0 ≤ (if q < x ∧ q ≤ (n : Int) then (ways25 ps).getD (n - q.toNat) 0 else 0) ∧ (if q < x ∧ q ≤ (n : Int) then (ways25 ps).getD (n - q.toNat) 0 else 0) ≤ 16777216 := by
      split
      · exact ways25_bd ps h _ (by omega)
      · omega
    omega
/-- those below an element of a rising list are those ahead of it -/
theorem belowS_take (B : List Int) (u : Nat) (x : Int) (hx : x ≤ (u : Int)) (ps : List Int) (j : Nat) : (∀ i, i < j → i < ps.length → ps.getD i 0 < x) → (∀ i, j ≤ i → i < ps.length → x ≤ ps.getD i 0) → belowS u B x ps = sumP u B (ps.take j) := by
  induction ps generalizing j with
  | nil => intro _ _; cases j <;> rfl
  | cons p ps ih =>
    intro h1 h2
    cases j with
    | zero =>
      have := h2 0 (by omega) (by simp)
      simp only [List.getD_cons_zero] at this
      rw [belowS, if_neg (by omega), Int.zero_add]
      have e := ih 0 (fun i hi => absurd hi (Nat.not_lt_zero _)) (fun i _ hi => h2 (i + 1) (by omega) (by simpa using hi))
      rw [e]; rfl
    | succ j =>
      have := h1 0 (by omega) (by simp)
      simp only [List.getD_cons_zero] at this
      rw [belowS, List.take_succ_cons, sumP, ih j (fun i hi hl => h1 (i + 1) (by omega) (by simpa using hl)) (fun i hi hl => h2 (i + 1) (by omega) (by simpa using hl))]
      congr 1
      by_cases c : p ≤ (u : Int)
      · rw [if_pos ⟨this, c⟩, if_pos c]
      · rw [if_neg (fun h => c h.2), if_neg c]
theorem partsB_le {ps : List Int} (h : partsB ps = true) (i d : Nat) (hd : i + d < ps.length) : ps.getD i 0 ≤ ps.getD (i + d) 0 ∧ (0 < d → ps.getD i 0 < ps.getD (i + d) 0) := by
  induction d with
  | zero => exact ⟨Int.le_refl _, fun h => absurd h (Nat.lt_irrefl _)⟩
  | succ d ih =>
    have a := ih (by omega)
    have b := partsB_lt h (i + d) (by omega)
    rw [show i + (d + 1) = i + d + 1 by omega]
    exact ⟨by omega, fun _ => by omega⟩
theorem sumP_snoc (u : Nat) (B : List Int) (l : List Int) (x : Int) : sumP u B (l ++ [x]) = sumP u B l + (if x ≤ (u : Int) then B.getD (u - x.toNat) 0 else 0) := by
  induction l with
  | nil => simp [sumP]
  | cons p l ih => rw [List.cons_append, sumP, sumP, ih]; omega
theorem sumP_zero (u : Nat) (B : List Int) (qs : List Int) (hq : ∀ p ∈ qs, (u : Int) < p) : sumP u B qs = 0 := by
  induction qs with
  | nil => rfl
  | cons q qs ih =>
    have := hq q (by simp)
    rw [sumP, if_neg (by omega), ih (fun p hp => hq p (by simp [hp]))]; rfl
theorem nb_inner (ps : List Int) (h : partsB ps = true) (u : Nat) (hu : u ≤ 24) (hu1 : 1 ≤ u) (acc : List Int) (ha : acc.length + u ≤ 24)
    (IH : ∀ (v : Nat) (num : Int) (acc : List Int), v < u → acc.length + v ≤ 24 → 0 ≤ num → num < (ways25 ps).getD v 0 → ∃ r : List Int, sumL r = v ∧ (∀ x ∈ r, x ∈ ps) ∧ rankL ps v r = num ∧ Ev (fun k => impl_NumberedGrouping.l0 k v ps num (ways25 ps) acc) (acc ++ r, 0)) (d : Nat) :
    ∀ (j : Nat) (num : Int), j + d = ps.length → 0 ≤ num → num < sumP u (ways25 ps) (ps.drop j) → (∀ i, i < j → ps.getD i 0 ≤ (u : Int)) → ∃ r : List Int, sumL r = u ∧ (∀ x ∈ r, x ∈ ps) ∧ rankL ps u r = sumP u (ways25 ps) (ps.take j) + num ∧ Ev (fun k => impl_NumberedGrouping.l1 k u ps num (ways25 ps) acc ps ps.length j) (acc ++ r, 0) := by
  have hl := (partsB_len h).2
  have hWl := ways25_length ps
  induction d with
  | zero =>
    intro j num h1 h2 h3 h4
    rw [List.drop_of_length_le (by omega), sumP] at h3
    omega
  | succ d ih =>
    intro j num h1 h2 h3 h4
    have hp := partsB_get h j (by omega)
    have w1 := Aside0.mk (show wrap64 ((j : Int) + 1) = ((j + 1 : Nat) : Int) from by rw [wid (by omega)]; rfl)
    have h30 := h3
    rw [consD ps j (by omega), sumP] at h3
    by_cases c : ps.getD j 0 ≤ u
    · rw [if_pos c] at h3
      have w2 := Aside0.mk (show wrap64 ((u : Int) - ps.getD j 0) = ((u - (ps.getD j 0).toNat : Nat) : Int) from by rw [wid (by omega)]; omega)
      have hv := ways25_bd ps h (u - (ps.getD j 0).toNat) (by omega)
      by_cases c2 : num < (ways25 ps).getD (u - (ps.getD j 0).toNat) 0
      · obtain ⟨r, r1, r2, r3, r4⟩ := IH (u - (ps.getD j 0).toNat) num (acc ++ [ps.getD j 0]) (by omega) (by rw [List.length_append, List.length_singleton]; omega) h2 c2
        refine ⟨ps.getD j 0 :: r, by rw [sumL, r1]; omega, fun x hx => ?_, ?_, Ev.shift ?_⟩
        · rcases List.mem_cons.1 hx with e | e
          · rw [e]; exact memD ps j (by omega)
          · exact r2 x e
        · rw [rankL, r3, belowS_take (ways25 ps) u (ps.getD j 0) c ps j (fun i hi hl => by
            have := (partsB_le h i (j - i) (by omega)).2 (by omega)
            rwa [show i + (j - i) = j by omega] at this) (fun i hi hl => by
            have := (partsB_le h j (i - j) (by omega)).1
            rwa [show j + (i - j) = i by omega] at this)]
        · simp only [impl_NumberedGrouping.l1]
          rw [rd_nat, w2.out, rd_nat]
          rw [List.append_assoc] at r4
          exact Ev.pos (by omega) (Ev.pos (by omega) (Ev.pos (by omega) (Ev.neg (by omega) (Ev.pos (by omega) (Ev.pos (by omega) (Ev.pos c2 (Ev.pos (by omega) r4)))))))
      · obtain ⟨r, r1, r2, r3, r4⟩ := ih (j + 1) (num - (ways25 ps).getD (u - (ps.getD j 0).toNat) 0) (by omega) (by omega) (by omega) (fun i hi => by
          by_cases e : i = j
          · rw [e]; exact c
          · exact h4 i (by omega))
        have w3 := Aside0.mk (show wrap64 (num - (ways25 ps).getD (u - (ps.getD j 0).toNat) 0) = num - (ways25 ps).getD (u - (ps.getD j 0).toNat) 0 from by
          have hs := (sumP_le u (by omega) ps h (ps.drop (j + 1)) (fun p hp => rfP_pos (by omega) (partsB_rfP h) p (List.mem_of_mem_drop hp))).2
          rw [List.length_drop] at hs
          exact wid (by omega))
        refine ⟨r, r1, r2, ?_, Ev.shift ?_⟩
        · rw [r3, List.take_add_one, List.getElem?_eq_getElem (by omega), Option.toList_some, sumP_snoc]
          have eg : ps[j]'(by omega) = ps.getD j 0 := by rw [List.getD_eq_getElem?_getD, List.getElem?_eq_getElem (by omega), Option.getD_some]
          rw [eg, if_pos c]; omega
        · simp only [impl_NumberedGrouping.l1]
          rw [rd_nat, w2.out, rd_nat, w3.out, w1.out]
          exact Ev.pos (by omega) (Ev.pos (by omega) (Ev.pos (by omega) (Ev.neg (by omega) (Ev.pos (by omega) (Ev.pos (by omega) (Ev.neg c2 r4))))))
    · rw [if_neg c] at h3
      exfalso
      have hz : sumP u (ways25 ps) (ps.drop (j + 1)) = 0 := sumP_zero u _ _ (fun p hp => by
        obtain ⟨i, hi, rfl⟩ := List.getElem_of_mem hp
        rw [List.length_drop] at hi
        rw [List.getElem_drop]
        have := (partsB_le h j (i + 1) (by omega)).1
        rw [List.getD_eq_getElem?_getD (i := j + (i + 1)), List.getElem?_eq_getElem (by omega), Option.getD_some] at this
        have e : j + (i + 1) = j + 1 + i := by omega
        simp only [e] at this
        omega)
      omega
theorem nb_outer (ps : List Int) (h : partsB ps = true) (u : Nat) : ∀ (num : Int) (acc : List Int), u ≤ 24 → acc.length + u ≤ 24 → 0 ≤ num → num < (ways25 ps).getD u 0 → ∃ r : List Int, sumL r = u ∧ (∀ x ∈ r, x ∈ ps) ∧ rankL ps u r = num ∧ Ev (fun k => impl_NumberedGrouping.l0 k u ps num (ways25 ps) acc) (acc ++ r, 0) := by
  induction u using Nat.strongRecOn with
  | _ u IH =>
    intro num acc hu ha h0 h1
    by_cases z : u = 0
    · subst z
      have := (ways25_exact ps h).1
      refine ⟨[], rfl, by simp, by rw [rankL]; omega, Ev.shift ?_⟩
      simp only [impl_NumberedGrouping.l0]
      rw [List.append_nil]
      exact Ev.neg (by omega) (Ev.now _)
    · have e := (ways25_exact ps h).2.2 u (by omega) hu
      obtain ⟨r, r1, r2, r3, r4⟩ := nb_inner ps h u hu (by omega) acc ha (fun v num acc hv ha h0 h1 => IH v hv num acc (by omega) ha h0 h1) ps.length 0 num (by omega) h0 (by rw [List.drop_zero, ← e]; exact h1) (fun i hi => absurd hi (Nat.not_lt_zero _))
      refine ⟨r, r1, r2, by rw [r3, List.take_zero, sumP, Int.zero_add], Ev.shift ?_⟩
      simp only [impl_NumberedGrouping.l0]
      exact Ev.pos (by omega) r4
theorem gr_l2 (ps : List Int) (h : partsB ps = true) (u : Nat) (hu : u ≤ 24) (x : Int) (g : List Int) (i : Nat) (R : Int × Int) (hg : g.length ≤ 24) (hi : i < g.length) (d : Nat) : ∀ (j : Nat) (num : Int), j + d = ps.length → 0 ≤ num → num ≤ 4000000000 + 16777216 * j →
    Ev (fun k => impl_GroupingNumber.l1 k ps (wrap64 ((u : Int) - x)) (ways25 ps) (num + belowS u (ways25 ps) x (ps.drop j)) g (g.length : Int) ((i + 1 : Nat) : Int)) R →
    Ev (fun k => impl_GroupingNumber.l2 k ps u (ways25 ps) num x g (g.length : Int) i ps (ps.length : Int) j) R := by
  have hl := (partsB_len h).2
  have hWl := ways25_length ps
  induction d with
  | zero =>
    intro j num h1 h2 h3 H
    rw [List.drop_of_length_le (by omega), belowS, Int.add_zero] at H
    refine Ev.shift ?_
    simp only [impl_GroupingNumber.l2]
    rw [show wrap64 ((i : Int) + 1) = ((i + 1 : Nat) : Int) by rw [wid (by omega)]; rfl]
    exact Ev.neg (by omega) H
  | succ d ih =>
    intro j num h1 h2 h3 H
    have hp := partsB_get h j (by omega)
    have w1 := Aside0.mk (show wrap64 ((j : Int) + 1) = ((j + 1 : Nat) : Int) from by rw [wid (by omega)]; rfl)
    rw [consD ps j (by omega), belowS] at H
    refine Ev.shift ?_
    simp only [impl_GroupingNumber.l2]
    rw [rd_nat, w1.out]
    refine Ev.pos (by omega) (Ev.pos (by omega) (Ev.pos (by omega) ?_))
    by_cases c : ps.getD j 0 < x
    · refine Ev.pos c ?_
      by_cases c2 : ps.getD j 0 ≤ (u : Int)
      · have hv := ways25_bd ps h (u - (ps.getD j 0).toNat) (by omega)
        rw [if_pos ⟨c, c2⟩] at H
        rw [show wrap64 ((u : Int) - ps.getD j 0) = ((u - (ps.getD j 0).toNat : Nat) : Int) by rw [wid (by omega)]; omega, rd_nat, wid (x := num + (ways25 ps).getD (u - (ps.getD j 0).toNat) 0) (by omega)]
        refine Ev.pos c2 (Ev.pos (by omega) (Ev.pos (by omega) (ih (j + 1) _ (by omega) (by omega) (by omega) ?_)))
        rw [Int.add_assoc]; exact H
      · rw [if_neg (fun h => c2 h.2), Int.zero_add] at H
        exact Ev.neg c2 (ih (j + 1) num (by omega) h2 (by omega) H)
    · rw [if_neg (fun h => c h.1), Int.zero_add] at H
      exact Ev.neg c (ih (j + 1) num (by omega) h2 (by omega) H)
theorem gr_l1 (ps : List Int) (h : partsB ps = true) (g : List Int) (hg : g.length ≤ 24) (hx : ∀ x ∈ g, 1 ≤ x ∧ x ≤ 24) (d : Nat) : ∀ (i u : Nat) (num : Int), i + d = g.length → sumL (g.drop i) ≤ u → u ≤ 24 → 0 ≤ num → num ≤ 134217728 * i →
    Ev (fun k => impl_GroupingNumber.l1 k ps u (ways25 ps) num g (g.length : Int) i) (num + rankL ps u (g.drop i), 0) := by
  have hl := (partsB_len h).2
  induction d with
  | zero =>
    intro i u num h1 h2 h3 h4 h5
    rw [List.drop_of_length_le (by omega), rankL, Int.add_zero]
    refine Ev.shift ?_
    simp only [impl_GroupingNumber.l1]
    exact Ev.neg (by omega) (Ev.now _)
  | succ d ih =>
    intro i u num h1 h2 h3 h4 h5
    have hxi := hx _ (memD g i (by omega))
    rw [consD g i (by omega)] at h2 ⊢
    rw [sumL] at h2
    have hpos := sumL_pos (g.drop (i + 1)) (fun x hx' => (hx x (List.mem_of_mem_drop hx')).1)
    have hb := belowS_bd ps h u h3 (g.getD i 0) ps (partsB_mem h)
    rw [rankL]
    refine Ev.shift ?_
    simp only [impl_GroupingNumber.l1]
    rw [rd_nat]
    refine Ev.pos (by omega) (Ev.pos (by omega) (Ev.pos (by omega) (gr_l2 ps h u h3 (g.getD i 0) g i _ hg (by omega) ps.length 0 num (by omega) h4 (by omega) ?_)))
    rw [List.drop_zero, show wrap64 ((u : Int) - g.getD i 0) = ((u - (g.getD i 0).toNat : Nat) : Int) by rw [wid (by omega)]; omega, ← Int.add_assoc]
    exact ih (i + 1) (u - (g.getD i 0).toNat) _ (by omega) (by omega) (by omega) (by omega) (by omega)
theorem grN (ps g : List Int) (h : partsB ps = true) (u : Nat) (hu : u ≤ 24) (hs : sumL g = u) (hm : ∀ x ∈ g, x ∈ ps) : Ev (fun k => impl_GroupingNumber.f k ps g) (rankL ps u g, 0) := by
  have hmem := partsB_mem h
  have hx : ∀ x ∈ g, 1 ≤ x ∧ x ≤ 24 := fun x hx => hmem x (hm x hx)
  have hlen := sumL_pos g (fun x h' => (hx x h').1)
  have hl := (partsB_len h).2
  unfold impl_GroupingNumber.f
  have hv := iParts ps (by omega)
  rw [h] at hv
  refine Ev.bind hv (Ev.pos rfl ?_)
  have hN : Ev (fun k => (impl_groupingCounts.f k ps).bind fun t => impl_GroupingNumber.l1 k ps (u : Int) t 0 g (g.length : Int) 0) (rankL ps u g, 0) := by
    refine Ev.bind (iWays ps h) ?_
    have := gr_l1 ps h g (by omega) hx g.length 0 u 0 (by omega) (by rw [List.drop_zero, hs]; exact Int.le_refl _) hu (by omega) (by omega)
    rw [List.drop_zero, Int.zero_add] at this
    exact this
  have := iGroup_l0 ps g hmem hl (by omega) (u : Int) (rankL ps u g, 0) hN g.length 0 0 (by omega) (by omega) (fun _ => by rw [List.drop_zero, Int.zero_add]; exact hs)
  rw [List.drop_zero, if_pos ((gOk_iff ps hmem g 0 (by omega)).2 ⟨hm, by omega⟩)] at this
  exact this
/-! accents -/
def accs (s : Int) : List Int → List Int
  | [] => []
  | x :: l => s :: accs (s + x) l
theorem accs_length (l : List Int) : ∀ s, (accs s l).length = l.length := by
  induction l with
  | nil => intro s; rfl
  | cons x l ih => intro s; rw [accs, List.length_cons, ih, List.length_cons]
theorem accs_get (l : List Int) : ∀ (s : Int) (j : Nat), j < l.length → (accs s l).getD j 0 = s + sumL (l.take j) := by
  induction l with
  | nil => intro s j h; simp at h
  | cons x l ih =>
    intro s j h
    cases j with
    | zero => simp [accs, sumL]
    | succ j =>
      rw [accs, List.getD_cons_succ, ih (s + x) j (by simpa using h), List.take_succ_cons, sumL]; omega
theorem sumL_snoc (l : List Int) (x : Int) : sumL (l ++ [x]) = sumL l + x := by
  induction l with
  | nil => simp [sumL]
  | cons a l ih => rw [List.cons_append, sumL, sumL, ih]; omega
theorem iAcc_l0 (l : List Int) (h48 : lensB l = true) (d : Nat) : ∀ (i : Nat) (acc : List Int) (s : Int), i + d = l.length → acc.length = i → 0 ≤ s → s ≤ 64 * i → Ev (fun k => impl_AccentsOf.l0 k acc s l (l.length : Int) i) (acc ++ accs s (l.drop i), 0) := by
  have hl := lensB_len h48
  induction d with
  | zero =>
    intro i acc s h1 h2 h3 h4
    rw [List.drop_of_length_le (by omega), accs, List.append_nil]
    refine Ev.shift ?_
    simp only [impl_AccentsOf.l0]
    exact Ev.neg (by omega) (Ev.now _)
  | succ d ih =>
    intro i acc s h1 h2 h3 h4
    have hx := lensB_get h48 i (by omega)
    refine Ev.shift ?_
    simp only [impl_AccentsOf.l0, rd_nat]
    rw [wid (x := s + l.getD i 0) (by omega), show wrap64 ((i : Int) + 1) = ((i + 1 : Nat) : Int) by rw [wid (by omega)]; rfl, consD l i (by omega), accs]
    have := ih (i + 1) (acc ++ [s]) (s + l.getD i 0) (by omega) (by simp; omega) (by omega) (by omega)
    rw [List.append_assoc] at this
    exact Ev.pos (by omega) (Ev.pos (by omega) (Ev.pos (by omega) (Ev.pos (by omega) this)))
theorem iAcc (l : List Int) (h48 : lensB l = true) : Ev (fun k => impl_AccentsOf.f k l) (accs 0 l, 0) := by
  unfold impl_AccentsOf.f
  rw [iLens]
  simp only [Option.bind_some]
  have := iAcc_l0 l h48 l.length 0 [] 0 (by omega) rfl (by omega) (by omega)
  exact Ev.pos h48 this
/-! lengths in another speed -/
theorem conv_l0 (l : List Int) (a b : Int) (f : Int → Int) (hl : l.length ≤ 48) (ha : 1 ≤ a ∧ a ≤ 8) (hb : 1 ≤ b ∧ b ≤ 8) (hf : ∀ x ∈ l, 1 ≤ x ∧ x ≤ 64 ∧ x * b = f x * a ∧ 1 ≤ f x ∧ f x ≤ 64) (d : Nat) : ∀ (i : Nat) (acc : List Int), i + d = l.length → acc.length = i → Ev (fun k => impl_ConvertLengths.l0 k a b acc l (l.length : Int) i) (acc ++ (l.drop i).map f, 0) := by
  induction d with
  | zero =>
    intro i acc h1 h2
    rw [List.drop_of_length_le (by omega), List.map_nil, List.append_nil]
    refine Ev.shift ?_
    simp only [impl_ConvertLengths.l0]
    exact Ev.neg (by omega) (Ev.now _)
  | succ d ih =>
    intro i acc h1 h2
    have hx := hf _ (memD l i (by omega))
    have hm : l.getD i 0 * b = f (l.getD i 0) * a := hx.2.2.1
    have hbd : 0 ≤ f (l.getD i 0) * a ∧ f (l.getD i 0) * a ≤ 512 := by
      refine ⟨Int.mul_nonneg (by omega) (by omega), ?_⟩
      exact Int.le_trans (Int.mul_le_mul hx.2.2.2.2 ha.2 (by omega) (by omega)) (by omega)
    refine Ev.shift ?_
    simp only [impl_ConvertLengths.l0, rd_nat]
    rw [hm, wid (x := f (l.getD i 0) * a) (by omega), Int.mul_tmod_left, Int.mul_tdiv_cancel _ (by omega), wid (x := f (l.getD i 0)) (by omega), iLen1, show wrap64 ((i : Int) + 1) = ((i + 1 : Nat) : Int) by rw [wid (by omega)]; rfl, consD l i (by omega), List.map_cons]
    simp only [Option.bind_some]
    have := ih (i + 1) (acc ++ [f (l.getD i 0)]) (by omega) (by simp; omega)
    rw [List.append_assoc] at this
    exact Ev.pos (by omega) (Ev.pos (by omega) (Ev.pos (by omega) (Ev.neg (by omega) (Ev.pos (by trivial) (Ev.pos (decide_eq_true hx.2.2.2) (Ev.pos (by omega) this))))))
theorem convF (l : List Int) (a b : Int) (f : Int → Int) (h48 : lensB l = true) (ha : 1 ≤ a ∧ a ≤ 8) (hb : 1 ≤ b ∧ b ≤ 8) (hf : ∀ x ∈ l, 1 ≤ x ∧ x ≤ 64 ∧ x * b = f x * a ∧ 1 ≤ f x ∧ f x ≤ 64) : Ev (fun k => impl_ConvertLengths.f k l a b) (l.map f, 0) := by
  unfold impl_ConvertLengths.f
  rw [within_eq, within_eq]
  simp only [Option.bind_some]
  refine Ev.pos (decide_eq_true ha) ?_
  rw [decide_eq_true hb]
  refine Ev.shift ?_
  simp only [impl_ConvertLengths.j0, iLens, Option.bind_some]
  refine Ev.neg (by simp) (Ev.pos h48 ?_)
  have := conv_l0 l a b f (lensB_len h48) ha hb hf l.length 0 [] (by omega) rfl
  exact this
/-! shapes seen from the end -/
theorem dd_rev (l : List Int) : dd l.reverse = (dd l).reverse := by
  induction l with
  | nil => rfl
  | cons a r ih =>
    cases r with
    | nil => rfl
    | cons b r =>
      have e : (b :: r).reverse.getLast? = some b := by rw [List.getLast?_reverse]; rfl
      rw [List.reverse_cons, dd_snoc, ih, e]
      simp only [dd]
      by_cases h : a = b
      · rw [if_pos h, if_pos (by rw [h]), List.append_nil]
      · rw [if_neg h, if_neg (fun e => h (Option.some.inj e).symm), List.reverse_cons]
theorem dd_neg (l : List Int) : dd (l.map fun x => -x) = (dd l).map fun x => -x := by
  induction l with
  | nil => rfl
  | cons a r ih =>
    cases r with
    | nil => rfl
    | cons b r =>
      simp only [List.map_cons, dd] at ih ⊢
      by_cases h : a = b
      · rw [if_pos h, if_pos (by omega)]; exact ih
      · rw [if_neg h, if_neg (by omega), List.map_cons, ih]
theorem sgn_neg (a b : Int) : sgn a b = -(sgn b a) := by
  unfold sgn
  (repeat' split) <;> omega
theorem ext_getS (a b : List Int) (hl : a.length = b.length) (h : ∀ j, j < a.length → a.getD j 0 = b.getD j 0) : a = b := by
  refine List.ext_getElem hl fun j h1 h2 => ?_
  have := h j h1
  rwa [List.getD_eq_getElem?_getD, List.getElem?_eq_getElem h1, List.getD_eq_getElem?_getD, List.getElem?_eq_getElem h2] at this
theorem revGet (t : List Int) (q : Nat) (h : q < t.length) : t.reverse.getD q 0 = t.getD (t.length - 1 - q) 0 := by
  rw [List.getD_eq_getElem?_getD, List.getElem?_reverse h, List.getD_eq_getElem?_getD]
theorem turns_rev (l : List Int) : turnsL l.reverse = ((turnsL l).map fun x => -x).reverse := by
  have hn := turnsL_length l
  refine ext_getS _ _ (by rw [turnsL_length, List.length_reverse, List.length_reverse, List.length_map, hn]) fun j hj => ?_
  rw [turnsL_length, List.length_reverse] at hj
  rw [turnsL_get _ j (by rw [List.length_reverse]; omega), revGet l j (by omega), revGet l (j + 1) (by omega), revGet _ j (by rw [List.length_map]; omega), List.length_map, hn]
  have e1 := turnsL_get l (l.length - 1 - 1 - j) (by omega)
  have e2 : ((turnsL l).map fun x => -x).getD (l.length - 1 - 1 - j) 0 = -((turnsL l).getD (l.length - 1 - 1 - j) 0) := by
    rw [List.getD_eq_getElem?_getD, List.getElem?_map, List.getD_eq_getElem?_getD]
    cases (turnsL l)[l.length - 1 - 1 - j]? <;> rfl
  rw [e2, e1, sgn_neg, show l.length - 1 - 1 - j + 1 = l.length - 1 - j by omega, show l.length - 1 - (j + 1) = l.length - 1 - 1 - j by omega]
def turnT (t : List Int) : List Int := (t.map fun x => -x).reverse
theorem turnT_inv (t : List Int) : turnT (turnT t) = t := by
  unfold turnT
  rw [← List.map_reverse, List.reverse_reverse, List.map_map]
  conv => rhs; rw [← List.map_id t]
  exact List.map_congr_left fun x _ => by simp
theorem turnT_eq {t s : List Int} (h : turnT t = s) : t = turnT s := by rw [← h, turnT_inv]
theorem shape_turn (t : List Int) : shapeF (turnT t) = if shapeF t = 2 then 3 else if shapeF t = 3 then 2 else shapeF t := by
  by_cases h0 : t = [] ∨ t = [0]
  · rcases h0 with rfl | rfl <;> rfl
  by_cases h1 : t = [1]
  · subst h1; rfl
  by_cases h2 : t = [-1]
  · subst h2; rfl
  by_cases h3 : t = [1, -1]
  · subst h3; rfl
  by_cases h4 : t = [-1, 1]
  · subst h4; rfl
  have e : shapeF t = 0 := by unfold shapeF; rw [if_neg h0, if_neg h1, if_neg h2, if_neg h3, if_neg h4]
  rw [e]
  unfold shapeF
  rw [if_neg (fun h => h0 (by rcases h with h | h <;> rw [turnT_eq h] <;> simp [turnT])), if_neg (fun h => h2 (by rw [turnT_eq h]; rfl)), if_neg (fun h => h1 (by rw [turnT_eq h]; rfl)), if_neg (fun h => h3 (by rw [turnT_eq h]; rfl)), if_neg (fun h => h4 (by rw [turnT_eq h]; rfl))]
  rfl
theorem iShape (l : List Int) (h48 : lensB l = true) : Ev (fun k => impl_ShapeOf.f k l) (shapeR (dd (turnsL l))) := by
  unfold impl_ShapeOf.f
  rw [iLens]
  simp only [Option.bind_some]
  exact Ev.pos h48 (iShape_l0 l (lensB_len h48) l.length 1 (by omega) (by omega) (by omega))
theorem shapeR_1 (t : List Int) : (shapeR t).1 = shapeF t := by
  unfold shapeR
  by_cases h : shapeF t = 0
  · rw [if_pos h, h]
  · rw [if_neg h]
/-! the law -/
theorem bytesOf8 (l : List Int) (hl : ∀ x ∈ l, (Lit.int .u8 x).wf = true) (j : Nat) (hj : j < l.length) : 0 ≤ l.getD j 0 ∧ l.getD j 0 ≤ 255 := by
  have h := hl _ (List.getElem_mem hj)
  rw [List.getD_eq_getElem?_getD, List.getElem?_eq_getElem hj, Option.getD_some]
  simp [Lit.wf, IntKind.min, IntKind.max, IntKind.signed, IntKind.bits] at h
  omega
theorem at8 (l : List Int) (hl : ∀ j, j < l.length → 0 ≤ l.getD j 0 ∧ l.getD j 0 ≤ 255) (i n : Int) (hi : 0 ≤ i) (hn : 2 ≤ n ∧ n ≤ 1000000) : ∃ v, laws_r8At.f l i n = some v ∧ 0 ≤ v ∧ v < n := by
  unfold laws_r8At.f
  rw [if_neg (by omega)]
  by_cases c : i ≥ (l.length : Int)
  · rw [if_pos c]; exact ⟨0, rfl, by omega, by omega⟩
  · have q := hl i.toNat (by omega)
    have e : rd l i = l.getD i.toNat 0 := rfl
    rw [if_neg c, if_pos hi, if_pos (by omega), if_neg (by omega), e, wid (x := l.getD i.toNat 0) (by omega), Int.tmod_eq_emod_of_nonneg q.1]
    exact ⟨_, rfl, Int.emod_nonneg _ (by omega), Int.emod_lt_of_pos _ (by omega)⟩
theorem same8_l0 (a : List Int) (hl : a.length ≤ 35184372088832) (d : Nat) : ∀ i : Nat, i + d = a.length → Ev (fun k => laws_r8Same.l0 k a a i) true := by
  induction d with
  | zero =>
    intro i h
    refine Ev.shift ?_
    simp only [laws_r8Same.l0]
    exact Ev.neg (by omega) (Ev.now _)
  | succ d ih =>
    intro i h
    refine Ev.shift ?_
    simp only [laws_r8Same.l0]
    refine Ev.pos (by omega) (Ev.pos (by omega) (Ev.pos (by omega) (Ev.pos (by trivial) ?_)))
    rw [wid (by omega)]
    exact ih (i + 1) (by omega)
theorem same8 (a : List Int) (hl : a.length ≤ 35184372088832) : Ev (fun k => laws_r8Same.f k a a) true := by
  unfold laws_r8Same.f
  exact Ev.pos rfl (same8_l0 a hl a.length 0 (by omega))
theorem has8_l0 (l : List Int) (n : Int) (hl : l.length ≤ 35184372088832) (hn : n ∈ l) (d : Nat) : ∀ i : Nat, i + d = l.length → (∀ j, j < i → l.getD j 0 ≠ n) → Ev (fun k => laws_r8Has.l0 k l n i) true := by
  induction d with
  | zero =>
    intro i h1 h2
    obtain ⟨j, hj, e⟩ := List.getElem_of_mem hn
    have := h2 j (by omega)
    rw [List.getD_eq_getElem?_getD, List.getElem?_eq_getElem hj, Option.getD_some] at this
    exact absurd e this
  | succ d ih =>
    intro i h1 h2
    refine Ev.shift ?_
    simp only [laws_r8Has.l0, rd_nat]
    refine Ev.pos (by omega) (Ev.pos (by omega) ?_)
    by_cases c : l.getD i 0 = n
    · exact Ev.pos c (Ev.now _)
    · refine Ev.neg c ?_
      rw [wid (by omega)]
      exact ih (i + 1) (by omega) (fun j hj => by
        by_cases e : j = i
        · rw [e]; exact c
        · exact h2 j (by omega))
theorem has8 (l : List Int) (n : Int) (hl : l.length ≤ 35184372088832) (hn : n ∈ l) : Ev (fun k => laws_r8Has.f k l n) true := by
  unfold laws_r8Has.f
  exact has8_l0 l n hl hn l.length 0 (by omega) (fun j hj => absurd hj (Nat.not_lt_zero _))
theorem small_lens (L : List Int) (h5 : L.length ≤ 48) (h : ∀ x ∈ L, 1 ≤ x ∧ x ≤ 64) : lensB L = true := by
  unfold lensB
  rw [Bool.and_eq_true]
  exact ⟨decide_eq_true h5, List.all_eq_true.2 fun x hx => decide_eq_true (h x hx)⟩
theorem final3 (L : List Int) (h5 : L.length ≤ 5) (h8 : ∀ x ∈ L, 1 ≤ x ∧ x ≤ 8) : Ev (fun k => laws_FnGroups.l3 k L L.reverse (-1)) true := by
  have hL := small_lens L (by omega) (fun x hx => by have := h8 x hx; omega)
  have hR := small_lens L.reverse (by rw [List.length_reverse]; omega) (fun x hx => by have := h8 x (List.mem_reverse.1 hx); omega)
  have c1 := convF L 1 3 (fun x => 3 * x) hL (by omega) (by omega) (fun x hx => by have := h8 x hx; omega)
  have h3 : lensB (L.map fun x => 3 * x) = true := small_lens _ (by rw [List.length_map]; omega) (fun x hx => by
    obtain ⟨y, hy, rfl⟩ := List.mem_map.1 hx
    have := h8 y hy; omega)
  have c2 := convF (L.map fun x => 3 * x) 3 1 (fun x => x / 3) h3 (by omega) (by omega) (fun x hx => by
    obtain ⟨y, hy, rfl⟩ := List.mem_map.1 hx
    have := h8 y hy; omega)
  have e2 : (L.map fun x => 3 * x).map (fun x => x / 3) = L := by
    rw [List.map_map]
    conv => rhs; rw [← List.map_id L]
    exact List.map_congr_left fun x _ => by simp only [Function.comp, id]; omega
  rw [e2] at c2
  have s1 := iShape L hL
  have s2 := iShape L.reverse hR
  rw [turns_rev, dd_rev, dd_neg] at s2
  have s3 := same8 L (by omega)
  refine Ev.shift ?_
  simp only [laws_FnGroups.l3]
  refine Ev.neg (by omega) (Ev.bind c1 (Ev.bind c2 (Ev.bind s1 (Ev.bind s2 (Ev.pos rfl (Ev.pos rfl (Ev.bind s3 (Ev.pos rfl (Ev.shift ?_)))))))))
  have rel := shape_turn (dd (turnsL L))
  unfold turnT at rel
  generalize dd (turnsL L) = t at rel
  have k1 := shapeR_1 t
  have k2 := shapeR_1 ((t.map fun x => -x).reverse)
  have hc : (shapeR t).2 = (shapeR ((t.map fun x => -x).reverse)).2 := by
    unfold shapeR
    by_cases z : shapeF t = 0
    · rw [if_pos z, if_pos (by rw [rel, z]; rfl)]
    · rw [if_neg z, if_neg (by rw [rel]; split; · omega
                               · split <;> omega)]
  simp only [laws_FnGroups.j8]
  rw [hc, bne_self_eq_false, k1, k2, rel]
  refine Ev.neg (by simp) ?_
  by_cases a2 : shapeF t = 2
  · exact Ev.pos a2 (Ev.some (by rw [if_pos a2]; rfl))
  refine Ev.neg a2 ?_
  by_cases a3 : shapeF t = 3
  · exact Ev.pos a3 (Ev.some (by rw [if_neg a2, if_pos a3]; rfl))
  · exact Ev.neg a3 (Ev.some (by rw [if_neg a2, if_neg a3]; simp))
theorem back3 (L : List Int) (h5 : L.length ≤ 5) (h8 : ∀ x ∈ L, 1 ≤ x ∧ x ≤ 8) (d : Nat) : ∀ q : Nat, q + d = L.length → Ev (fun k => laws_FnGroups.l3 k L (L.reverse.take q) ((L.length : Int) - 1 - q)) true := by
  induction d with
  | zero =>
    intro q h
    rw [List.take_of_length_le (by rw [List.length_reverse]; omega), show (L.length : Int) - 1 - q = -1 by omega]
    exact final3 L h5 h8
  | succ d ih =>
    intro q h
    have e1 : (L.length : Int) - 1 - q = ((L.length - 1 - q : Nat) : Int) := by omega
    have e2 : wrap64 (((L.length - 1 - q : Nat) : Int) - 1) = (L.length : Int) - 1 - ((q + 1 : Nat) : Int) := by rw [wid (by omega)]; omega
    have hk : (L.reverse.take q).length ≤ 5 := by rw [List.length_take, List.length_reverse]; omega
    have hs : L.reverse.take q ++ [L.getD (L.length - 1 - q) 0] = L.reverse.take (q + 1) := by
      rw [List.take_add_one, ← revGet L q (by omega), List.getD_eq_getElem?_getD, List.getElem?_eq_getElem (by rw [List.length_reverse]; omega)]; rfl
    refine Ev.shift ?_
    rw [e1]
    simp only [laws_FnGroups.l3, e2, rd_nat, hs]
    exact Ev.pos (by omega) (Ev.pos (by omega) (Ev.pos (by omega) (Ev.pos (by omega) (ih (q + 1) (by omega)))))
theorem lens2 (x1 : List Int) (hb : ∀ j, j < x1.length → 0 ≤ x1.getD j 0 ∧ x1.getD j 0 ≤ 255) (c : Nat) (hc : c ≤ 5) (e : laws_r8At.f x1 3 6 = some (c : Int)) (d : Nat) : ∀ (i : Nat) (acc : List Int), i + d = c → acc.length = i → (∀ x ∈ acc, 1 ≤ x ∧ x ≤ 8) → Ev (fun k => laws_FnGroups.l2 k x1 acc [] i) true := by
  induction d with
  | zero =>
    intro i acc h1 h2 h3
    refine Ev.shift ?_
    simp only [laws_FnGroups.l2, e, Option.bind_some]
    have := back3 acc (by omega) h3 acc.length 0 (by omega)
    rw [List.take_zero, Int.natCast_zero, Int.sub_zero] at this
    rw [wid (x := (acc.length : Int) - 1) (by omega)]
    exact Ev.neg (by omega) this
  | succ d ih =>
    intro i acc h1 h2 h3
    obtain ⟨v, ev, v0, v1⟩ := at8 x1 hb (4 + i) 8 (by omega) (by omega)
    refine Ev.shift ?_
    simp only [laws_FnGroups.l2, e, Option.bind_some]
    rw [wid (x := 4 + (i : Int)) (by omega), ev]
    simp only [Option.bind_some]
    rw [wid (x := 1 + v) (by omega), show wrap64 ((i : Int) + 1) = ((i + 1 : Nat) : Int) by rw [wid (by omega)]; rfl]
    refine Ev.pos (by omega) (Ev.pos (by omega) (ih (i + 1) _ (by omega) (by simp; omega) (fun x hx => ?_)))
    rcases List.mem_append.1 hx with hx | hx
    · exact h3 x hx
    · simp at hx; omega
theorem law_j5 (x1 : List Int) (hb : ∀ j, j < x1.length → 0 ≤ x1.getD j 0 ∧ x1.getD j 0 ≤ 255) : Ev (fun k => laws_FnGroups.j5 k x1) true := by
  obtain ⟨c, ec, c0, c1⟩ := at8 x1 hb 3 6 (by omega) (by omega)
  obtain ⟨n, rfl⟩ := Int.eq_ofNat_of_zero_le c0
  refine Ev.shift ?_
  simp only [laws_FnGroups.j5]
  exact lens2 x1 hb n (by omega) ec n 0 [] (by omega) rfl (by simp)
theorem law_l1 (x1 : List Int) (hb : ∀ j, j < x1.length → 0 ≤ x1.getD j 0 ∧ x1.getD j 0 ≤ 255) (ps : List Int) (hps : ps.length ≤ 8) (u : Nat) (hu : u ≤ 24) (r : List Int) (hm : ∀ x ∈ r, x ∈ ps) (hx : ∀ x ∈ r, 1 ≤ x ∧ x ≤ 24) (hs : sumL r = u) (hr : r.length ≤ 24) (d : Nat) : ∀ i : Nat, i + d = r.length → Ev (fun k => laws_FnGroups.l1 k x1 ps u r (accs 0 r) (sumL (r.take i)) i) true := by
  have ha := accs_length r 0
  induction d with
  | zero =>
    intro i h
    refine Ev.shift ?_
    simp only [laws_FnGroups.l1]
    rw [List.take_of_length_le (by omega)]
    exact Ev.neg (by omega) (Ev.pos hs (law_j5 x1 hb))
  | succ d ih =>
    intro i h
    have hxi := hx _ (memD r i (by omega))
    have bd : ∀ q : List Int, (∀ x ∈ q, 1 ≤ x ∧ x ≤ 24) → 0 ≤ sumL q ∧ sumL q ≤ 24 * q.length := by
      intro q
      induction q with
      | nil => intro _; simp [sumL]
      | cons a q ihq =>
        intro hq
        have a1 := hq a (by simp)
        have a2 := ihq (fun x h => hq x (by simp [h]))
        rw [sumL, List.length_cons]; omega
    have b1 := bd (r.take i) (fun x h => hx x (List.mem_of_mem_take h))
    rw [List.length_take] at b1
    refine Ev.shift ?_
    simp only [laws_FnGroups.l1, rd_nat]
    rw [accs_get r 0 i (by omega), Int.zero_add, wid (x := sumL (r.take i) + r.getD i 0) (by omega), show wrap64 ((i : Int) + 1) = ((i + 1 : Nat) : Int) by rw [wid (by omega)]; rfl]
    refine Ev.pos (by omega) (Ev.pos (by omega) (Ev.bind (has8 ps _ (by omega) (hm _ (memD r i (by omega)))) (Ev.pos rfl (Ev.pos (by omega) (Ev.pos rfl ?_)))))
    have := ih (i + 1) (by omega)
    rw [List.take_add_one, List.getElem?_eq_getElem (by omega), Option.toList_some, sumL_snoc] at this
    rw [List.getD_eq_getElem?_getD, List.getElem?_eq_getElem (by omega), Option.getD_some]
    exact this
theorem law_j1 (x1 : List Int) (hb : ∀ j, j < x1.length → 0 ≤ x1.getD j 0 ∧ x1.getD j 0 ≤ 255) (ps : List Int) (h : partsB ps = true) : Ev (fun k => laws_FnGroups.j1 k x1 ps) true := by
  have hl := partsB_len h
  have hWl := ways25_length ps
  obtain ⟨u, eu, u0, u1⟩ := at8 x1 hb 0 18 (by omega) (by omega)
  obtain ⟨u, rfl⟩ := Int.eq_ofNat_of_zero_le u0
  have hu : u ≤ 24 := by omega
  have hv := iParts ps (by omega)
  rw [h] at hv
  have wb := ways25_bd ps h u hu
  have hC : Ev (fun k => impl_CountGroupings.f k u ps) ((ways25 ps).getD u 0, 0) := by
    unfold impl_CountGroupings.f
    rw [within_eq]
    simp only [Option.bind_some]
    refine Ev.pos (decide_eq_true (by omega)) (Ev.bind hv (Ev.pos rfl (Ev.bind (iWays ps h) (Ev.pos (by omega) (Ev.pos (by omega) ?_)))))
    rw [rd_nat]; exact Ev.now _
  have hN : ∀ num : Int, Ev (fun k => impl_NumberedGrouping.l0 k u ps num (ways25 ps) []) (([] : List Int), 0) ∨ True := fun _ => .inr trivial
  have hNo : Ev (fun k => impl_NumberedGrouping.f k u ps ((ways25 ps).getD u 0)) ([], 3) := by
    unfold impl_NumberedGrouping.f
    rw [within_eq]
    simp only [Option.bind_some]
    refine Ev.pos (decide_eq_true (by omega)) (Ev.bind hv (Ev.pos rfl (Ev.bind (iWays ps h) (Ev.pos (by omega) (Ev.pos (by omega) ?_)))))
    rw [rd_nat, wid (x := (ways25 ps).getD u 0 - 1) (by omega), within_eq]
    simp only [Option.bind_some]
    exact Ev.neg (by rw [decide_eq_true_iff]; omega) (Ev.now _)
  have hj5 := law_j5 x1 hb
  refine Ev.shift ?_
  simp only [laws_FnGroups.j1, eu, Option.bind_some]
  refine Ev.bind hC (Ev.bind hNo (Ev.pos rfl (Ev.neg (by simp only; omega) (Ev.shift ?_))))
  simp only [laws_FnGroups.j2]
  refine Ev.neg (by simp) ?_
  by_cases c : (ways25 ps).getD u 0 > 0
  · obtain ⟨a, ea, a0, a1⟩ := at8 x1 hb 1 256 (by omega) (by omega)
    obtain ⟨b, eb, b0, b1⟩ := at8 x1 hb 2 256 (by omega) (by omega)
    have hw : laws_r8Wide.f x1 1 60000 = some (Int.tmod (256 * a + b) 60000) := by
      unfold laws_r8Wide.f
      rw [ea]
      simp only [Option.bind_some]
      rw [show wrap64 (1 + 1) = 2 by unfold wrap64; omega, eb]
      simp only [Option.bind_some]
      rw [if_neg (by omega), wid (x := 256 * a) (by omega), wid (x := 256 * a + b) (by omega)]
    rw [hw]
    simp only [Option.bind_some]
    have t0 : 0 ≤ Int.tmod (256 * a + b) 60000 := by rw [Int.tmod_eq_emod_of_nonneg (by omega)]; omega
    have tk : 0 ≤ Int.tmod (Int.tmod (256 * a + b) 60000) ((ways25 ps).getD u 0) ∧ Int.tmod (Int.tmod (256 * a + b) 60000) ((ways25 ps).getD u 0) < (ways25 ps).getD u 0 := by
      rw [Int.tmod_eq_emod_of_nonneg t0]
      exact ⟨Int.emod_nonneg _ (by omega), Int.emod_lt_of_pos _ c⟩
    generalize Int.tmod (Int.tmod (256 * a + b) 60000) ((ways25 ps).getD u 0) = num at tk
    obtain ⟨r, r1, r2, r3, r4⟩ := nb_outer ps h u num [] hu (by simp; omega) tk.1 tk.2
    have hx : ∀ x ∈ r, 1 ≤ x ∧ x ≤ 24 := fun x hx => partsB_mem h x (r2 x hx)
    have hrl := sumL_pos r (fun x h' => (hx x h').1)
    have n1 : Ev (fun k => impl_NumberedGrouping.f k u ps num) (r, 0) := by
      unfold impl_NumberedGrouping.f
      rw [within_eq]
      simp only [Option.bind_some]
      refine Ev.pos (decide_eq_true (by omega)) (Ev.bind hv (Ev.pos rfl (Ev.bind (iWays ps h) (Ev.pos (by omega) (Ev.pos (by omega) ?_)))))
      rw [rd_nat, wid (x := (ways25 ps).getD u 0 - 1) (by omega), within_eq]
      simp only [Option.bind_some]
      exact Ev.pos (decide_eq_true (by omega)) r4
    have n2 := grN ps r h u hu r1 r2
    rw [r3] at n2
    have n3 := iAcc r (small_lens r (by omega) (fun x h' => by have := hx x h'; omega))
    refine Ev.pos c (Ev.neg (by omega) (Ev.bind n1 (Ev.bind n2 (Ev.bind n3 (Ev.pos rfl (Ev.pos rfl (Ev.pos rfl (Ev.pos rfl (Ev.shift ?_)))))))))
    simp only [laws_FnGroups.j3]
    rw [accs_length, bne_self_eq_false]
    refine Ev.neg (by simp) ?_
    have := law_l1 x1 hb ps hl.2 u hu r r2 hx r1 (by omega) r.length 0 (by omega)
    rw [List.take_zero] at this
    exact this
  · exact Ev.neg c hj5
theorem partsOf (ps : List Int) (h1 : 1 ≤ ps.length) (h8 : ps.length ≤ 8) (h2 : ∀ j, j < ps.length → 1 ≤ ps.getD j 0 ∧ ps.getD j 0 ≤ 24) (h3 : ∀ j, j + 1 < ps.length → ps.getD j 0 < ps.getD (j + 1) 0) : partsB ps = true := by
  unfold partsB
  rw [Bool.and_eq_true]
  refine ⟨decide_eq_true ⟨h1, h8⟩, (allF_iff _).2 fun j hj _ => ?_⟩
  simp only [risQ, Bool.and_eq_true, Bool.or_eq_true]
  refine ⟨decide_eq_true (h2 j hj), ?_⟩
  by_cases e : j = 0
  · exact .inl (decide_eq_true e)
  · have := h3 (j - 1) (by omega)
    rw [show j - 1 + 1 = j by omega] at this
    exact .inr (decide_eq_true this)
theorem law_l0 (x0 x1 : List Int) (hb0 : ∀ j, j < x0.length → 0 ≤ x0.getD j 0 ∧ x0.getD j 0 ≤ 255) (hb : ∀ j, j < x1.length → 0 ≤ x1.getD j 0 ∧ x1.getD j 0 ≤ 255) (d : Nat) : ∀ (i : Nat) (ps : List Int), i + d = 7 → 1 ≤ i → ps.length + 1 ≤ i → (∀ j, j < ps.length → 1 ≤ ps.getD j 0 ∧ ps.getD j 0 < i) → (∀ j, j + 1 < ps.length → ps.getD j 0 < ps.getD (j + 1) 0) → Ev (fun k => laws_FnGroups.l0 k x0 x1 ps i) true := by
  induction d with
  | zero =>
    intro i ps h1 h2 h3 h4 h5
    refine Ev.shift ?_
    simp only [laws_FnGroups.l0]
    refine Ev.neg (by omega) ?_
    by_cases z : ps.length = 0
    · obtain rfl : ps = [] := List.length_eq_zero_iff.1 z
      exact Ev.pos (by simp) (Ev.pos (by simp) (law_j1 x1 hb [2] (partsOf [2] (by simp) (by simp) (fun j hj => by obtain rfl : j = 0 := (by simpa using hj); simp) (fun j hj => by simp at hj))))
    · exact Ev.neg (by omega) (law_j1 x1 hb ps (partsOf ps (by omega) (by omega) (fun j hj => by have := h4 j hj; omega) h5))
  | succ d ih =>
    intro i ps h1 h2 h3 h4 h5
    obtain ⟨v, ev, v0, v1⟩ := at8 x0 hb0 (i : Int) 2 (by omega) (by omega)
    refine Ev.shift ?_
    simp only [laws_FnGroups.l0, ev, Option.bind_some]
    rw [show wrap64 ((i : Int) + 1) = ((i + 1 : Nat) : Int) by rw [wid (by omega)]; rfl]
    refine Ev.pos (by omega) ?_
    by_cases c : v = 0
    · refine Ev.pos c (Ev.pos (by omega) (ih (i + 1) _ (by omega) (by omega) (by simp; omega) (fun j hj => ?_) (fun j hj => ?_)))
      · rw [List.length_append, List.length_singleton] at hj
        rcases Nat.lt_or_ge j ps.length with q | q
        · rw [List.getD_eq_getElem?_getD, List.getElem?_append_left q, ← List.getD_eq_getElem?_getD]
          have := h4 j q; omega
        · obtain rfl : j = ps.length := by omega
          rw [List.getD_eq_getElem?_getD, List.getElem?_append_right (Nat.le_refl _)]; simp; omega
      · rw [List.length_append, List.length_singleton] at hj
        rw [List.getD_eq_getElem?_getD, List.getElem?_append_left (by omega), ← List.getD_eq_getElem?_getD]
        rcases Nat.lt_or_ge (j + 1) ps.length with q | q
        · rw [List.getD_eq_getElem?_getD (l := ps ++ [(i : Int)]), List.getElem?_append_left q, ← List.getD_eq_getElem?_getD]
          exact h5 j q
        · obtain e : j + 1 = ps.length := by omega
          rw [e, List.getD_eq_getElem?_getD (l := ps ++ [(i : Int)]), List.getElem?_append_right (Nat.le_refl _)]
          have := h4 j (by omega)
          simp only [e, Nat.sub_self, List.getElem?_cons_zero, Option.getD_some]; omega
    · exact Ev.neg c (ih (i + 1) ps (by omega) (by omega) (by omega) (fun j hj => by have := h4 j hj; omega) h5)
theorem FnGroups : laws_FnGroups.Pure := by
  intro x0 x1 _ _ hw0 _ _ hw1
  refine Ev.rounds (g := fun k => laws_FnGroups.f k x0 x1) ?_
  unfold laws_FnGroups.f laws_r8Long.f
  have fin := law_l0 x0 x1 (bytesOf8 x0 hw0) (bytesOf8 x1 hw1) 6 1 [] (by omega) (by omega) (by simp) (by simp) (by simp)
  by_cases c : (x0.length : Int) > 1048576
  · rw [if_pos c]
    simp only [Option.bind_some]
    exact Ev.pos trivial (Ev.now _)
  · rw [if_neg c]
    simp only [Option.bind_some]
    by_cases c2 : (x1.length : Int) > 1048576
    · exact Ev.pos (decide_eq_true c2) (Ev.now _)
    · exact Ev.neg (by rw [decide_eq_true_iff]; exact c2) fin

end Go.Proofs.Ytjdmfkmagcnakaa.Pure
