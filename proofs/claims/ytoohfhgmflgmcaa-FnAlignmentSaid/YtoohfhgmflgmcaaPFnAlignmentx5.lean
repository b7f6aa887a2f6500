-- written by xprint.py, a program of this repo over the kit's print; not trusted: Lean checks it
import Derived.Test.YtoohfhgmflgmcaaPFnAlignmentx0
import Derived.Test.YtoohfhgmflgmcaaPFnAlignmentx4
namespace Go.Proofs.Ytoohfhgmflgmcaa.PFnAlignment
open Go.RowKit Go.Proofs.YtoohfhgmflgmcaaW.PrintWords Go.Proofs.YtoohfhgmflgmcaaW.PrintLast Go.Proofs.YtoohfhgmflgmcaaW.PrintMore
attribute [local go_sem] max2_int min2_int max_two min_two max_three min_three max_four min_four   -- for this text's walks alone
set_option linter.unusedVariables false
set_option linter.unusedSimpArgs false

/-! ### impl_align: function 27, by hand -/
section
def al_in (o : Nat → Int) (b miss : Int) (nx : Nat → Int) (M k : Nat) : Nat → Int × Int
  | 0 => (miss + nx k, -1)
  | j + 1 =>
    let p := al_in o b miss nx M k j
    let m := M - 1 - j
    let n := miss * ((m : Int) - k) + (((o m - b).natAbs : Nat) : Int) + nx (m + 1)
    if n ≤ p.1 then (n, (m : Int)) else p
def al_row (b o : Nat → Int) (miss : Int) (N M : Nat) : Nat → Nat → Int
  | 0 => fun k => miss * ((M : Int) - k)
  | r + 1 => fun k => (al_in o (b (N - 1 - r)) miss (al_row b o miss N M r) M k (M - k)).1
def al_ch (b o : Nat → Int) (miss : Int) (N M : Nat) : Nat → Nat → Int
  | 0 => fun _ => 0
  | r + 1 => fun k => (al_in o (b (N - 1 - r)) miss (al_row b o miss N M r) M k (M - k)).2
def al_nx (b o : Nat → Int) (miss : Int) (N M : Nat) : Nat → Int
  | 0 => 0
  | i + 1 => if 0 ≤ al_ch b o miss N M (N - i) (al_nx b o miss N M i).toNat then al_ch b o miss N M (N - i) (al_nx b o miss N M i).toNat + 1 else al_nx b o miss N M i
def al_m (b o : Nat → Int) (miss : Int) (N M : Nat) : List Int := (List.range N).map fun i => al_ch b o miss N M (N - i) (al_nx b o miss N M i).toNat
def al_ok (l : List Int) : Bool := decide (l.length ≤ 1000) && l.all fun x => decide (0 ≤ x ∧ x ≤ 1000000000)
theorem al_ok_p {l : List Int} (h : al_ok l = true) : l.length ≤ 1000 ∧ ∀ x ∈ l, 0 ≤ x ∧ x ≤ 1000000000 := by
  simp only [al_ok, Bool.and_eq_true, decide_eq_true_eq, List.all_eq_true] at h
  exact h
def mixA (M : Nat) (f : Nat → Int) (k : Nat) : Array Value := (Array.range (M + 1)).map fun q => Value.int .i64 (if q < k then f q else 0)
theorem mixA_size (M : Nat) (f : Nat → Int) (k : Nat) : (mixA M f k).size = M + 1 := by simp [mixA]
theorem mixA_get (M : Nat) (f : Nat → Int) (k q : Nat) (h : q ≤ M) : (mixA M f k)[q]? = some (.int .i64 (if q < k then f q else 0)) := by
  unfold mixA
  rw [Array.getElem?_map, Array.getElem?_range, if_pos (by omega)]
  rfl
theorem mixA_zero (M : Nat) (f : Nat → Int) : Go.madeCells #[.int .i64 0] (M + 1) = mixA M f 0 := by
  unfold Go.madeCells mixA
  congr 1
  funext q
  simp [Nat.mod_one]
theorem mixA_set (M : Nat) (f : Nat → Int) (k : Nat) : (mixA M f k).setIfInBounds k (.int .i64 (f k)) = mixA M f (k + 1) := by
  apply Array.ext_getElem?
  intro q
  rw [Array.getElem?_setIfInBounds]
  by_cases h : q ≤ M
  · rw [mixA_get M f (k + 1) q h, mixA_get M f k q h, mixA_size]
    by_cases e : k = q
    · subst e
      rw [if_pos rfl, if_pos (by omega), if_pos (by omega)]
    · rw [if_neg e]
      by_cases c : q < k
      · rw [if_pos c, if_pos (by omega)]
      · rw [if_neg c, if_neg (by omega)]
  · rw [Array.getElem?_eq_none (by rw [mixA_size]; omega), Array.getElem?_eq_none (by rw [mixA_size]; omega), mixA_size]
    split
    · rw [if_neg (by omega)]
    · rfl
end
theorem al_cell {W : World} {b i t : Nat} {cs : Array Value} (h : W.heap[b]? = some (.cells cs t (0, 0))) (hi : i < cs.size) : W.cell? ⟨b, i, none⟩ = some cs[i] ∧ W.frozen? ⟨b, i, none⟩ = false := by
  refine ⟨?_, ?_⟩
  · simp [World.cell?, h, hi]
  · simp [World.frozen?, h]
theorem al_ssize (W : World) (a : Addr) (v : Value) : (W.setCell a v).heap.size = W.heap.size := by simp [World.setCell]
theorem al_alloc {W : World} {b : Nat} {x : Obj} (h : W.heap[b]? = some x) (o : Obj) : (W.alloc o).heap[b]? = some x := by
  rw [Below.heap_alloc _ _ _ (Array.getElem?_eq_some_iff.1 h).1]; exact h
theorem al_set {W : World} {b : Nat} {x : Obj} (h : W.heap[b]? = some x) (a : Addr) (hne : b ≠ a.block) (v : Value) : (W.setCell a v).heap[b]? = some x := by
  rw [Below.heap_setCell _ _ _ _ hne]; exact h
theorem al_setc {W : World} {b i t : Nat} {cs : Array Value} (h : W.heap[b]? = some (.cells cs t (0, 0))) (v : Value) : (W.setCell ⟨b, i, none⟩ v).heap[b]? = some (.cells (cs.setIfInBounds i v) t (0, 0)) := by
  simp [World.setCell, Array.getElem?_modify, h]
theorem al_mul {a x : Int} (h0 : 0 ≤ a) (h1 : a ≤ 1000000000) (h2 : 0 ≤ x) (h3 : x ≤ 2000) : 0 ≤ a * x ∧ a * x ≤ 2000000000000 := by
  refine ⟨Int.mul_nonneg h0 h2, ?_⟩
  have := Int.mul_le_mul h1 h3 h2 (by omega : (0:Int) ≤ 1000000000)
  omega
def alOuter (W : World) (N M s cc : Nat) (rc : Nat → Nat) : Prop := ∃ cs : Array Value, W.heap[cc]? = some (.cells cs 24 (0, 0)) ∧ cs.size = N + 1 ∧ ∀ j, j ≤ N → N < j + s → cs[j]? = some (.slice (some ⟨rc j, 0, none⟩) (M + 1) (M + 1))
structure alI (w : World) (N M : Nat) (cv dv : Nat → Nat → Int) (s cc dc : Nat) (rc rd : Nat → Nat) (W : World) : Prop where
  below : Below w.heap.size w W
  hcc : w.heap.size ≤ cc
  hdc : w.heap.size ≤ dc
  ne : cc ≠ dc
  oc : alOuter W N M s cc rc
  od : alOuter W N M s dc rd
  rows : ∀ j, j ≤ N → N < j + s → w.heap.size ≤ rc j ∧ w.heap.size ≤ rd j ∧ W.heap[rc j]? = some (.cells (mixA M (cv j) (M + 1)) 2 (0, 0)) ∧ W.heap[rd j]? = some (.cells (mixA M (dv j) (M + 1)) 2 (0, 0))
theorem mixA_any (M : Nat) (f g : Nat → Int) : mixA M f 0 = mixA M g 0 := by
  unfold mixA
  congr 1
theorem mixA_const (M : Nat) (k q : Nat) : mixA M (fun _ => 0) k = mixA M (fun _ => 0) q := by
  unfold mixA
  congr 1
  funext x
  simp
theorem mixA_congr (M : Nat) (f g : Nat → Int) (k : Nat) (h : ∀ q, q < k → q ≤ M → f q = g q) : mixA M f k = mixA M g k := by
  apply Array.ext_getElem?
  intro q
  by_cases hq : q ≤ M
  · rw [mixA_get _ _ _ _ hq, mixA_get _ _ _ _ hq]
    by_cases c : q < k
    · rw [if_pos c, if_pos c, h q c hq]
    · rw [if_neg c, if_neg c]
  · rw [Array.getElem?_eq_none (by rw [mixA_size]; omega), Array.getElem?_eq_none (by rw [mixA_size]; omega)]
theorem al_in_b {o : Nat → Int} {b miss : Int} {nx : Nat → Int} {M k : Nat} (h0 : 0 ≤ miss) (hn : ∀ q, q ≤ M → 0 ≤ nx q) (hk : k ≤ M) : ∀ j, j ≤ M - k → 0 ≤ (al_in o b miss nx M k j).1 ∧ (al_in o b miss nx M k j).1 ≤ miss + nx k ∧ ((al_in o b miss nx M k j).2 = -1 ∨ ((k : Int) ≤ (al_in o b miss nx M k j).2 ∧ (al_in o b miss nx M k j).2 < M)) := by
  intro j
  induction j with
  | zero =>
    intro _
    have := hn k hk
    exact ⟨by show 0 ≤ miss + nx k; omega, Int.le_refl _, .inl rfl⟩
  | succ j ih =>
    intro hj
    have ih := ih (by omega)
    simp only [al_in]
    split
    · rename_i h
      refine ⟨?_, Int.le_trans h ih.2.1, .inr ⟨by omega, by omega⟩⟩
      have h1 : 0 ≤ miss * (((M - 1 - j : Nat) : Int) - k) := Int.mul_nonneg h0 (by omega)
      have h2 := hn (M - 1 - j + 1) (by omega)
      omega
    · exact ih
theorem al_row_b (b o : Nat → Int) (miss : Int) (N M : Nat) (h0 : 0 ≤ miss) : ∀ r k, k ≤ M → 0 ≤ al_row b o miss N M r k ∧ al_row b o miss N M r k ≤ miss * M + miss * r := by
  intro r
  induction r with
  | zero =>
    intro k hk
    refine ⟨Int.mul_nonneg h0 (by omega), ?_⟩
    show miss * ((M : Int) - k) ≤ _
    have := Int.mul_le_mul_of_nonneg_left (show (M : Int) - k ≤ M by omega) h0
    rw [Int.ofNat_zero, Int.mul_zero]
    omega
  | succ r ih =>
    intro k hk
    have hb := al_in_b (o := o) (b := b (N - 1 - r)) (nx := al_row b o miss N M r) h0 (fun q hq => (ih q hq).1) hk (M - k) (Nat.le_refl _)
    refine ⟨hb.1, Int.le_trans hb.2.1 ?_⟩
    have := (ih k hk).2
    rw [show ((r + 1 : Nat) : Int) = (r : Int) + 1 from rfl, Int.mul_add, Int.mul_one]
    omega
theorem al_row_max {b o : Nat → Int} {miss : Int} {N M : Nat} (h0 : 0 ≤ miss) (h1 : miss ≤ 1000000000) (hM : M ≤ 1000) {r k : Nat} (hr : r ≤ 1000) (hk : k ≤ M) : 0 ≤ al_row b o miss N M r k ∧ al_row b o miss N M r k ≤ 4000000000000 := by
  have h := al_row_b b o miss N M h0 r k hk
  have a := (al_mul h0 h1 (show (0 : Int) ≤ M by omega) (by omega)).2
  have c := (al_mul h0 h1 (show (0 : Int) ≤ r by omega) (by omega)).2
  exact ⟨h.1, by omega⟩
theorem al_get {l : List Int} (h : ∀ x ∈ l, 0 ≤ x ∧ x ≤ 1000000000) (j : Nat) : 0 ≤ l.getD j 0 ∧ l.getD j 0 ≤ 1000000000 := by
  rw [List.getD_eq_getElem?_getD]
  cases hc : l[j]? with
  | none => exact ⟨by decide, by decide⟩
  | some x => exact h x (List.mem_of_getElem? hc)
theorem al_abs (a : Int) (h : -9223372036854775807 ≤ a ∧ a ≤ 9223372036854775807) : impl_abs.f a = some (a.natAbs : Int) := by
  unfold impl_abs.f
  rw [Go.Proofs.YtoohfhgmflgmcaaXW.wid (by omega)]
  unfold mx
  split <;> simp <;> omega
structure alNew (w wr W1 : World) (M i cc dc : Nat) (cs ds : Array Value) (b1 b2 : Nat) : Prop where
  below : Below w.heap.size w W1
  h1 : wr.heap.size ≤ b1
  h2 : wr.heap.size ≤ b2
  ne : b1 ≠ b2
  oc : W1.heap[cc]? = some (.cells (cs.setIfInBounds i (.slice (some ⟨b1, 0, none⟩) (M + 1) (M + 1))) 24 (0, 0))
  od : W1.heap[dc]? = some (.cells (ds.setIfInBounds i (.slice (some ⟨b2, 0, none⟩) (M + 1) (M + 1))) 24 (0, 0))
  r1 : W1.heap[b1]? = some (.cells (mixA M (fun _ => 0) 0) 2 (0, 0))
  r2 : W1.heap[b2]? = some (.cells (mixA M (fun _ => 0) 0) 2 (0, 0))
  same : ∀ q, q < wr.heap.size → q ≠ cc → q ≠ dc → W1.heap[q]? = wr.heap[q]?
theorem alNew_a {w wr : World} {M i cc dc b1 b2 : Nat} {cs ds : Array Value} (hB : Below w.heap.size w wr) (hcc : w.heap.size ≤ cc) (hdc : w.heap.size ≤ dc) (hne : cc ≠ dc) (hcs : wr.heap[cc]? = some (.cells cs 24 (0, 0))) (hds : wr.heap[dc]? = some (.cells ds 24 (0, 0)))
    (hb : (b1 = wr.heap.size ∧ b2 = wr.heap.size + 1) ∨ (b1 = wr.heap.size + 1 ∧ b2 = wr.heap.size)) :
    alNew w wr ((((wr.alloc (.cells (mixA M (fun _ => 0) 0) 2)).alloc (.cells (mixA M (fun _ => 0) 0) 2)).setCell ⟨cc, i, none⟩ (.slice (some ⟨b1, 0, none⟩) (M + 1) (M + 1))).setCell ⟨dc, i, none⟩ (.slice (some ⟨b2, 0, none⟩) (M + 1) (M + 1))).drew M i cc dc cs ds b1 b2 := by
  have lc := (Array.getElem?_eq_some_iff.1 hcs).1
  have ld := (Array.getElem?_eq_some_iff.1 hds).1
  have hs := hB.size
  have hr : ∀ b, b = wr.heap.size ∨ b = wr.heap.size + 1 → ((wr.alloc (.cells (mixA M (fun _ => 0) 0) 2)).alloc (.cells (mixA M (fun _ => 0) 0) 2)).heap[b]? = some (.cells (mixA M (fun _ => 0) 0) 2 (0, 0)) := by
    intro b h
    show ((wr.heap.push _).push _)[b]? = _
    rw [Array.getElem?_push, Array.getElem?_push, Array.size_push]
    rcases h with rfl | rfl
    · rw [if_neg (by omega), if_pos rfl]
    · rw [if_pos rfl]
  refine ⟨?_, by omega, by omega, by omega, ?_, ?_, ?_, ?_, fun q h1 h2 h3 => ?_⟩
  · exact (((((hB.alloc (by omega) _).alloc (by simp; omega) _).setCell (p := ⟨cc, i, none⟩) hcc _).setCell (p := ⟨dc, i, none⟩) hdc _)).drew
  · exact al_set (al_setc (al_alloc (al_alloc hcs _) _) _) ⟨dc, i, none⟩ hne _
  · exact al_setc (al_set (al_alloc (al_alloc hds _) _) ⟨cc, i, none⟩ (Ne.symm hne) _) _
  · exact al_set (al_set (hr b1 (by omega)) ⟨cc, i, none⟩ (by show b1 ≠ cc; omega) _) ⟨dc, i, none⟩ (by show b1 ≠ dc; omega) _
  · exact al_set (al_set (hr b2 (by omega)) ⟨cc, i, none⟩ (by show b2 ≠ cc; omega) _) ⟨dc, i, none⟩ (by show b2 ≠ dc; omega) _
  · show (World.setCell _ _ _).heap[q]? = _
    rw [Below.heap_setCell _ _ _ _ h3, Below.heap_setCell _ _ _ _ h2, Below.heap_alloc _ _ _ (by simp; omega), Below.heap_alloc _ _ _ h1]
theorem alNew_b {w wr : World} {M i cc dc : Nat} {cs ds : Array Value} (hB : Below w.heap.size w wr) (hcc : w.heap.size ≤ cc) (hdc : w.heap.size ≤ dc) (hne : cc ≠ dc) (hcs : wr.heap[cc]? = some (.cells cs 24 (0, 0))) (hds : wr.heap[dc]? = some (.cells ds 24 (0, 0))) :
    alNew w wr ((((wr.alloc (.cells (mixA M (fun _ => 0) 0) 2)).setCell ⟨cc, i, none⟩ (.slice (some ⟨wr.heap.size, 0, none⟩) (M + 1) (M + 1))).alloc (.cells (mixA M (fun _ => 0) 0) 2)).setCell ⟨dc, i, none⟩ (.slice (some ⟨wr.heap.size + 1, 0, none⟩) (M + 1) (M + 1))).drew M i cc dc cs ds wr.heap.size (wr.heap.size + 1) := by
  have lc := (Array.getElem?_eq_some_iff.1 hcs).1
  have ld := (Array.getElem?_eq_some_iff.1 hds).1
  have hs := hB.size
  have sz : ((wr.alloc (.cells (mixA M (fun _ => 0) 0) 2)).setCell ⟨cc, i, none⟩ (.slice (some ⟨wr.heap.size, 0, none⟩) (M + 1) (M + 1))).heap.size = wr.heap.size + 1 := by simp [World.setCell]
  have hr1 : (wr.alloc (.cells (mixA M (fun _ => 0) 0) 2)).heap[wr.heap.size]? = some (.cells (mixA M (fun _ => 0) 0) 2 (0, 0)) := by
    show (wr.heap.push _)[wr.heap.size]? = _
    rw [Array.getElem?_push, if_pos rfl]
  refine ⟨?_, by omega, by omega, by omega, ?_, ?_, ?_, ?_, fun q h1 h2 h3 => ?_⟩
  · exact (((((hB.alloc (by omega) _).setCell (p := ⟨cc, i, none⟩) hcc _).alloc (by rw [sz]; omega) _).setCell (p := ⟨dc, i, none⟩) hdc _)).drew
  · exact al_set (al_alloc (al_setc (al_alloc hcs _) _) _) ⟨dc, i, none⟩ hne _
  · exact al_setc (al_alloc (al_set (al_alloc hds _) ⟨cc, i, none⟩ (Ne.symm hne) _) _) _
  · exact al_set (al_alloc (al_set hr1 ⟨cc, i, none⟩ (by show wr.heap.size ≠ cc; omega) _) _) ⟨dc, i, none⟩ (by show wr.heap.size ≠ dc; omega) _
  · refine al_set ?_ ⟨dc, i, none⟩ (by show wr.heap.size + 1 ≠ dc; omega) _
    generalize (wr.alloc (.cells (mixA M (fun _ => 0) 0) 2)).setCell ⟨cc, i, none⟩ (.slice (some ⟨wr.heap.size, 0, none⟩) (M + 1) (M + 1)) = X at sz
    show (X.heap.push _)[wr.heap.size + 1]? = _
    rw [Array.getElem?_push, sz, if_pos rfl]
  · show (World.setCell _ _ _).heap[q]? = _
    rw [Below.heap_setCell _ _ _ _ h3, Below.heap_alloc _ _ _ (by rw [sz]; omega), Below.heap_setCell _ _ _ _ h2, Below.heap_alloc _ _ _ h1]
structure alK (w : World) (M : Nat) (f g : Nat → Int) (b1 b2 : Nat) (W1 W : World) (k : Nat) : Prop where
  below : Below w.heap.size w W
  size : W1.heap.size ≤ W.heap.size
  same : ∀ q, q < W1.heap.size → q ≠ b1 → q ≠ b2 → W.heap[q]? = W1.heap[q]?
  r1 : W.heap[b1]? = some (.cells (mixA M f k) 2 (0, 0))
  r2 : W.heap[b2]? = some (.cells (mixA M g k) 2 (0, 0))
theorem alK_step0 {w W1 W : World} {M k b1 b2 : Nat} {f : Nat → Int} (h : alK w M f (fun _ => 0) b1 b2 W1 W k) (hne : b1 ≠ b2) (hb : w.heap.size ≤ b1) : alK w M f (fun _ => 0) b1 b2 W1 (W.setCell ⟨b1, k, none⟩ (.int .i64 (f k))) (k + 1) := by
  refine ⟨h.below.setCell (p := ⟨b1, k, none⟩) hb _, by simp only [al_ssize]; exact h.size, fun q h1 h2 h3 => ?_, ?_, ?_⟩
  · rw [Below.heap_setCell _ _ _ _ h2, h.same q h1 h2 h3]
  · rw [← mixA_set]; exact al_setc h.r1 _
  · rw [mixA_const M (k + 1) k]; exact al_set h.r2 ⟨b1, k, none⟩ (Ne.symm hne) _
theorem alK_step {w W1 W : World} {M k b1 b2 : Nat} {f g : Nat → Int} (h : alK w M f g b1 b2 W1 W k) (hne : b1 ≠ b2) (hb : w.heap.size ≤ b1) (hb2 : w.heap.size ≤ b2) : alK w M f g b1 b2 W1 ((W.setCell ⟨b1, k, none⟩ (.int .i64 (f k))).setCell ⟨b2, k, none⟩ (.int .i64 (g k))) (k + 1) := by
  refine ⟨(h.below.setCell (p := ⟨b1, k, none⟩) hb _).setCell (p := ⟨b2, k, none⟩) hb2 _, by simp only [al_ssize]; exact h.size, fun q h1 h2 h3 => ?_, ?_, ?_⟩
  · rw [Below.heap_setCell _ _ _ _ h3, Below.heap_setCell _ _ _ _ h2, h.same q h1 h2 h3]
  · rw [← mixA_set]; exact al_set (al_setc h.r1 _) ⟨b2, k, none⟩ hne _
  · rw [← mixA_set]; exact al_setc (al_set h.r2 ⟨b1, k, none⟩ (Ne.symm hne) _) _
theorem alK_cell {w W1 W : World} {M k b1 b2 : Nat} {f g : Nat → Int} (h : alK w M f g b1 b2 W1 W k) {b i : Nat} {v : Value} (hv : W1.cell? ⟨b, i, none⟩ = some v) (h1 : b ≠ b1) (h2 : b ≠ b2) : W.cell? ⟨b, i, none⟩ = some v := by
  have hl := World.block_lt_of_cell? W1 _ hv
  have := h.same b hl h1 h2
  unfold World.cell? at hv ⊢
  rw [this]; exact hv
theorem alK_below {w W1 W W' : World} {M k b1 b2 : Nat} {f g : Nat → Int} (h : alK w M f g b1 b2 W1 W k) (hB : Below W.heap.size W W') : alK w M f g b1 b2 W1 W' k := by
  refine ⟨h.below.trans (hB.mono h.below.size), Nat.le_trans h.size hB.size, fun q h1 h2 h3 => ?_, ?_, ?_⟩
  · rw [hB.block q (by have := h.size; omega), h.same q h1 h2 h3]
  · rw [hB.block _ (Array.getElem?_eq_some_iff.1 h.r1).1]; exact h.r1
  · rw [hB.block _ (Array.getElem?_eq_some_iff.1 h.r2).1]; exact h.r2
theorem alK_drew {w W1 W : World} {M k b1 b2 : Nat} {f g : Nat → Int} (h : alK w M f g b1 b2 W1 W k) : alK w M f g b1 b2 W1 W.drew k := ⟨h.below.drew, h.size, h.same, h.r1, h.r2⟩
def impl_align.T16 : Bool × List (List Nat × List Nat) := (true, [([], []), ([], []), ([], []), ([1, 2], [1, 2]), ([0, 3], [0, 3]), ([], []), ([], []), ([5, 6], [5, 6]), ([7], [7]), ([], []), ([], []), ([9, 10], [9, 10]), ([11], [11]), ([8, 12], [8, 12]), ([13], [13]), ([4, 14], [4, 14]), ([], []), ([], []), ([17], [17]), ([16, 18], [16, 18]), ([19], [19]), ([], []), ([21], [21]), ([20, 22], [20, 22]), ([23], [23]), ([15, 24], [15, 24]), ([25, 14, 0, 1, 2, 3, 4, 5, 6, 7, 8, 9, 10, 11, 12, 13, 14, 15, 16, 17, 18, 19, 20, 21, 22, 23, 24, 25], [25])])
def impl_align.B16 : List Nat := [0, 0, 0, 6, 15, 0, 0, 96, 224, 0, 0, 1536, 3584, 8160, 16352, 32767, 0, 0, 131072, 458752, 983040, 0, 2097152, 8323072, 16711680, 33554431, 67108863]
theorem impl_align.tab16 : rtab .any (opsOf Try.f27 16) = impl_align.T16 := by kernel_rfl
theorem impl_align.bits16 : waitsOk impl_align.T16.2 impl_align.B16 = true := by kernel_rfl
theorem alI_step {w W1 W wo : World} {N M s i cc dc b1 b2 : Nat} {cv dv : Nat → Nat → Int} {rc rd : Nat → Nat} {cs ds : Array Value} (AI : alI w N M cv dv s cc dc rc rd wo) (hi : i + s = N)
    (hcs : wo.heap[cc]? = some (.cells cs 24 (0, 0))) (hcsn : cs.size = N + 1) (hcsv : ∀ j, j ≤ N → N < j + s → cs[j]? = some (.slice (some ⟨rc j, 0, none⟩) (M + 1) (M + 1)))
    (hds : wo.heap[dc]? = some (.cells ds 24 (0, 0))) (hdsn : ds.size = N + 1) (hdsv : ∀ j, j ≤ N → N < j + s → ds[j]? = some (.slice (some ⟨rd j, 0, none⟩) (M + 1) (M + 1)))
    (NW : alNew w wo W1 M i cc dc cs ds b1 b2) (AK : alK w M (cv i) (dv i) b1 b2 W1 W (M + 1)) : alI w N M cv dv (s + 1) cc dc (fun j => if j = i then b1 else rc j) (fun j => if j = i then b2 else rd j) W := by
  have lc := (Array.getElem?_eq_some_iff.1 hcs).1
  have ld := (Array.getElem?_eq_some_iff.1 hds).1
  have h1 := NW.h1
  have h2 := NW.h2
  have hz := AI.below.size
  have k1 := (Array.getElem?_eq_some_iff.1 NW.oc).1
  have k2 := (Array.getElem?_eq_some_iff.1 NW.od).1
  refine ⟨AK.below, AI.hcc, AI.hdc, AI.ne, ⟨_, (AK.same cc k1 (by omega) (by omega)).trans NW.oc, by rw [Array.size_setIfInBounds]; exact hcsn, fun j hj hjs => ?_⟩, ⟨_, (AK.same dc k2 (by omega) (by omega)).trans NW.od, by rw [Array.size_setIfInBounds]; exact hdsn, fun j hj hjs => ?_⟩, fun j hj hjs => ?_⟩
  · rw [Array.getElem?_setIfInBounds]
    by_cases e : j = i
    · subst e; dsimp only; rw [if_pos rfl, if_pos (by omega), if_pos rfl]
    · dsimp only; rw [if_neg (Ne.symm e), if_neg e]; exact hcsv j hj (by omega)
  · rw [Array.getElem?_setIfInBounds]
    by_cases e : j = i
    · subst e; dsimp only; rw [if_pos rfl, if_pos (by omega), if_pos rfl]
    · dsimp only; rw [if_neg (Ne.symm e), if_neg e]; exact hdsv j hj (by omega)
  · by_cases e : j = i
    · subst e
      rw [if_pos rfl, if_pos rfl]
      exact ⟨by omega, by omega, AK.r1, AK.r2⟩
    · rw [if_neg e, if_neg e]
      obtain ⟨q1, q2, q3, q4⟩ := AI.rows j hj (by omega)
      have l3 := (Array.getElem?_eq_some_iff.1 q3).1
      have l4 := (Array.getElem?_eq_some_iff.1 q4).1
      have n1 : ∀ b a, wo.heap[b]? = some (.cells a 2 (0, 0)) → b ≠ cc ∧ b ≠ dc := fun b a hb => ⟨fun e => by rw [e, hcs] at hb; simp at hb, fun e => by rw [e, hds] at hb; simp at hb⟩
      have s3 := NW.same _ l3 (n1 _ _ q3).1 (n1 _ _ q3).2
      have s4 := NW.same _ l4 (n1 _ _ q4).1 (n1 _ _ q4).2
      have m3 := (Array.getElem?_eq_some_iff.1 (s3.trans q3)).1
      have m4 := (Array.getElem?_eq_some_iff.1 (s4.trans q4)).1
      exact ⟨q1, q2, (AK.same _ m3 (by omega) (by omega)).trans (s3.trans q3), (AK.same _ m4 (by omega) (by omega)).trans (s4.trans q4)⟩
def mixR (N : Nat) (f : Nat → Int) (k : Nat) : Array Value := (Array.range N).map fun q => Value.int .i64 (if q < k then f q else 0)
theorem mixR_size (N : Nat) (f : Nat → Int) (k : Nat) : (mixR N f k).size = N := by simp [mixR]
theorem mixR_get (N : Nat) (f : Nat → Int) (k q : Nat) (h : q < N) : (mixR N f k)[q]? = some (.int .i64 (if q < k then f q else 0)) := by
  unfold mixR
  rw [Array.getElem?_map, Array.getElem?_range, if_pos h]
  rfl
theorem mixR_zero (N : Nat) (f : Nat → Int) : Go.madeCells #[.int .i64 0] N = mixR N f 0 := by
  unfold Go.madeCells mixR
  congr 1
  funext q
  simp [Nat.mod_one]
theorem mixR_set (N : Nat) (f : Nat → Int) (k : Nat) (hk : k < N) : (mixR N f k).setIfInBounds k (.int .i64 (f k)) = mixR N f (k + 1) := by
  apply Array.ext_getElem?
  intro q
  rw [Array.getElem?_setIfInBounds]
  by_cases h : q < N
  · rw [mixR_get N f (k + 1) q h, mixR_get N f k q h, mixR_size]
    by_cases e : k = q
    · subst e
      rw [if_pos rfl, if_pos (by omega), if_pos (by omega)]
    · rw [if_neg e]
      by_cases c : q < k
      · rw [if_pos c, if_pos (by omega)]
      · rw [if_neg c, if_neg (by omega)]
  · rw [Array.getElem?_eq_none (by rw [mixR_size]; omega), Array.getElem?_eq_none (by rw [mixR_size]; omega), mixR_size]
    rw [if_neg (by omega)]
structure alM (w wo : World) (N : Nat) (f : Nat → Int) (mb : Nat) (W : World) (i : Nat) : Prop where
  below : Below w.heap.size w W
  same : ∀ q, q < wo.heap.size → W.heap[q]? = wo.heap[q]?
  r : W.heap[mb]? = some (.cells (mixR N f i) 2 (0, 0))
theorem alM_cell {w wo W : World} {N i mb : Nat} {f : Nat → Int} (h : alM w wo N f mb W i) {p : Addr} {v : Value} (hv : wo.cell? p = some v) : W.cell? p = some v := by
  have hl := World.block_lt_of_cell? wo _ hv
  have := h.same p.block hl
  unfold World.cell? at hv ⊢
  rw [this]; exact hv
theorem alM_step {w wo W : World} {N i mb : Nat} {f : Nat → Int} (h : alM w wo N f mb W i) (hmb : wo.heap.size ≤ mb) (hw : w.heap.size ≤ mb) (hi : i < N) : alM w wo N f mb (W.setCell ⟨mb, i, none⟩ (.int .i64 (f i))) (i + 1) := by
  refine ⟨h.below.setCell (p := ⟨mb, i, none⟩) hw _, fun q h1 => ?_, ?_⟩
  · rw [Below.heap_setCell _ _ _ _ (by show q ≠ mb; omega), h.same q h1]
  · rw [← mixR_set _ _ _ hi]; exact al_setc h.r _
theorem alM_R {w wo W : World} {N mb : Nat} {f : Nat → Int} (h : alM w wo N f mb W N) (hw : w.heap.size ≤ mb) (hN : N ≤ 1000) : Kd.R (Kd.int .i64) 2 W w.heap.size (fun _ => True) (.slice (some ⟨mb, 0, none⟩) N N) ((List.range N).map f) := by
  have hl : ((List.range N).map f).length = N := by simp
  have e : (mixR N f N).toList = ((List.range N).map f).map (Value.int .i64) := by
    unfold mixR
    rw [Array.toList_map, Array.toList_range, List.map_map]
    refine List.map_congr_left fun q hq => ?_
    rw [if_pos (List.mem_range.1 hq)]; rfl
  refine ⟨fun k hk => trivial, ((List.range N).map f).map (Value.int .i64), ⟨by rw [List.length_map, hl]; exact (Nat.mul_one _).symm, .inr ⟨mb, N, mixR N f N, by rw [hl], hw, h.r, by rw [hl]; exact Nat.le_refl _, by simp [maxLen]; omega, by rw [mixR_size]; exact (Nat.mul_one _).symm, ?_⟩⟩, ?_, fun j p hj => ?_⟩
  · rw [hl, e, List.take_of_length_le (by rw [List.length_map, hl]; exact Nat.le_of_eq (Nat.mul_one _).symm)]
  · rw [List.length_map, hl]; exact (Nat.mul_one _).symm
  · have h1 : (((List.range N).map f).map (Value.int .i64))[j]? = some (.int .i64 p) := by rw [List.getElem?_map, hj]; rfl
    obtain ⟨h2, h3⟩ := List.getElem?_eq_some_iff.1 h1
    have e2 : List.take (Kd.int .i64).sz (List.drop (j * (Kd.int .i64).sz) (((List.range N).map f).map (Value.int .i64))) = [.int .i64 p] := by
      show List.take 1 (List.drop (j * 1) _) = _
      rw [Nat.mul_one, List.drop_eq_getElem_cons h2, h3]; rfl
    rw [e2]
    rfl
theorem mixR_any (N : Nat) (f g : Nat → Int) : mixR N f 0 = mixR N g 0 := by
  unfold mixR
  congr 1
theorem alM_start {w wo : World} {N : Nat} {f : Nat → Int} (h : Below w.heap.size w wo) : alM w wo N f wo.heap.size (wo.alloc (.cells (mixR N (fun _ => 0) 0) 2)) 0 := by
  refine ⟨h.alloc h.size _, fun q h1 => Below.heap_alloc _ _ _ h1, ?_⟩
  rw [mixR_any N f (fun _ => 0)]
  show (wo.heap.push _)[wo.heap.size]? = _
  rw [Array.getElem?_push, if_pos rfl]
theorem alM_read {w wo W : World} {N i mb : Nat} {f : Nat → Int} (h : alM w wo N f mb W i) (hi : i < N) : (W.setCell ⟨mb, i, none⟩ (.int .i64 (f i))).cell? ⟨mb, i, none⟩ = some (.int .i64 (f i)) := by
  rw [(al_cell (al_setc h.r _) (i := i) (by rw [Array.size_setIfInBounds, mixR_size]; exact hi)).1, Array.getElem_setIfInBounds_self]
theorem al_ch_b (b o : Nat → Int) (miss : Int) (N M : Nat) (h0 : 0 ≤ miss) (r k : Nat) (hk : k ≤ M) (hr : 0 < r) : al_ch b o miss N M r k = -1 ∨ (0 ≤ al_ch b o miss N M r k ∧ al_ch b o miss N M r k < M) := by
  obtain ⟨r, rfl⟩ : ∃ q, r = q + 1 := ⟨r - 1, by omega⟩
  have hb := (al_in_b (o := o) (b := b (N - 1 - r)) (nx := al_row b o miss N M r) h0 (fun q hq => (al_row_b b o miss N M h0 r q hq).1) hk (M - k) (Nat.le_refl _)).2.2
  rcases hb with h | ⟨h1, h2⟩
  · exact .inl h
  · exact .inr ⟨by show 0 ≤ (al_in _ _ _ _ _ _ _).2; omega, h2⟩
theorem al_nx_b (b o : Nat → Int) (miss : Int) (N M : Nat) (h0 : 0 ≤ miss) : ∀ i, i ≤ N → 0 ≤ al_nx b o miss N M i ∧ al_nx b o miss N M i ≤ M := by
  intro i
  induction i with
  | zero => intro _; exact ⟨Int.le_refl _, by show (0 : Int) ≤ M; omega⟩
  | succ i ih =>
    intro hi
    have ih := ih (by omega)
    have hb := al_ch_b b o miss N M h0 (N - i) (al_nx b o miss N M i).toNat (by omega) (by omega)
    simp only [al_nx]
    split <;> omega
theorem alI_start {w : World} {N M : Nat} {cv dv : Nat → Nat → Int} (rc rd : Nat → Nat) : alI w N M cv dv 0 w.heap.size (w.heap.size + 1) rc rd ((w.alloc (.cells (Go.madeCells #[.slice none 0 0] (N + 1)) 24)).alloc (.cells (Go.madeCells #[.slice none 0 0] (N + 1)) 24)) := by
  refine ⟨((Below.refl _ w).alloc (Nat.le_refl _) _).alloc (by simp) _, Nat.le_refl _, by omega, by omega, ⟨Go.madeCells #[.slice none 0 0] (N + 1), ?_, size_madeCells _ _, fun j h1 h2 => by omega⟩, ⟨Go.madeCells #[.slice none 0 0] (N + 1), ?_, size_madeCells _ _, fun j h1 h2 => by omega⟩, fun j h1 h2 => by omega⟩
  · show ((w.heap.push _).push _)[w.heap.size]? = _
    rw [Array.getElem?_push, Array.getElem?_push, Array.size_push, if_neg (by omega), if_pos rfl]
  · show ((w.heap.push _).push _)[w.heap.size + 1]? = _
    rw [Array.getElem?_push, Array.size_push, if_pos rfl]
def impl_align.f (l0 l1 : List Int) (a2 : Int) : Option (List Int × Int) := if al_ok l0 = true ∧ al_ok l1 = true ∧ 0 ≤ a2 ∧ a2 ≤ 1000000000 then some (al_m (l0.getD · 0) (l1.getD · 0) a2 l0.length l1.length, al_row (l0.getD · 0) (l1.getD · 0) a2 l0.length l1.length l0.length 0) else none
set_option maxHeartbeats 8000000 in
set_option maxRecDepth 100000 in
theorem impl_align.calls (A0 : Option Addr) (c0 : Nat) (l0 : List Int) (A1 : Option Addr) (c1 : Nat) (l1 : List Int) (a2 : Int) (r1 : List Int) (r2 : Int) (w : World) (hr0 : Kd.C (Kd.int .i64) w A0 l0.length l0) (hc0 : l0.length ≤ c0) (hr1 : Kd.C (Kd.int .i64) w A1 l1.length l1) (hc1 : l1.length ≤ c1) (h : impl_align.f l0 l1 a2 = some (r1, r2)) :
    Calls Try.prog 27 #[.slice A0 l0.length c0, .slice A1 l1.length c1, .int .i64 a2] w fun e w' => ∃ v0_ : Value, e = .returned (.tuple #[v0_, .int .i64 r2]) ∧ Kd.R (Kd.int .i64) 2 w' w.heap.size (fun _ => True) v0_ r1 ∧ Below w.heap.size w w' := by
  have H : (if al_ok l0 = true ∧ al_ok l1 = true ∧ 0 ≤ a2 ∧ a2 ≤ 1000000000 then some (al_m (l0.getD · 0) (l1.getD · 0) a2 l0.length l1.length, al_row (l0.getD · 0) (l1.getD · 0) a2 l0.length l1.length l0.length 0) else none) = some (r1, r2) := h
  clear h
  by_cases c : al_ok l0 = true ∧ al_ok l1 = true ∧ 0 ≤ a2 ∧ a2 ≤ 1000000000
  · rw [if_pos c] at H
    simp only [Option.some.injEq, Prod.mk.injEq] at H
    obtain ⟨ok0, ok1, ha0, ha1⟩ := c
    obtain ⟨hN, hv0⟩ := al_ok_p ok0
    obtain ⟨hM, hv1⟩ := al_ok_p ok1
    clear ok0 ok1
    obtain ⟨h1, h2⟩ := H
    generalize hbb : (fun j => l0.getD j 0) = bb at h1 h2
    generalize hoo : (fun j => l1.getD j 0) = oo at h1 h2
    have e0N : wrap64 ((l0.length : Int) + 1) = ((l0.length + 1 : Nat) : Int) := by rw [Go.Proofs.YtoohfhgmflgmcaaXW.wid (by omega)]; rfl
    have e1N : wrap64 ((l1.length : Int) + 1) = ((l1.length + 1 : Nat) : Int) := by rw [Go.Proofs.YtoohfhgmflgmcaaXW.wid (by omega)]; rfl
    obtain ⟨i24, hi24, hz24, hs24, hb24⟩ := info_parts (show (Try.prog.info? 24).map (fun i => (i.zero, i.size, i.bytes)) = some (some (.slice none 0 0), 1, 24) by kernel_rfl)
    obtain ⟨i2, hi2, hz2, hs2, hb2⟩ := info_parts (show (Try.prog.info? 2).map (fun i => (i.zero, i.size, i.bytes)) = some (some (.int .i64 0), 1, 8) by kernel_rfl)
    have hmk1 : ∀ (W : World), (Instr.makeSlice 60 (.int .i64 ((l0.length : Int) + 1)) (.int .i64 ((l0.length : Int) + 1))).run Try.prog W = .ok (.slice (some ⟨W.heap.size, 0, none⟩) (l0.length + 1) (l0.length + 1)) (W.alloc (.cells (Go.madeCells #[.slice none 0 0] (l0.length + 1)) 24)) := by
      intro W
      rw [run_make (P := Try.prog) W 60 24 i24 (.slice none 0 0) Try.underlying60 hi24 hz24 .i64 .i64 ((l0.length : Int) + 1) ((l0.length : Int) + 1) (by omega) (by omega) (by rw [hb24]; omega) (by omega)]
      have e : ((l0.length : Int) + 1).toNat = l0.length + 1 := by omega
      rw [e, hs24, Nat.mul_one]
      rfl
    have hmk2 : ∀ (W : World), (Instr.makeSlice 24 (.int .i64 ((l1.length : Int) + 1)) (.int .i64 ((l1.length : Int) + 1))).run Try.prog W = .ok (.slice (some ⟨W.heap.size, 0, none⟩) (l1.length + 1) (l1.length + 1)) (W.alloc (.cells (mixA l1.length (fun _ => 0) 0) 2)) := by
      intro W
      rw [run_make (P := Try.prog) W 24 2 i2 (.int .i64 0) Try.underlying24 hi2 hz2 .i64 .i64 ((l1.length : Int) + 1) ((l1.length : Int) + 1) (by omega) (by omega) (by rw [hb2]; omega) (by omega)]
      have e : ((l1.length : Int) + 1).toNat = l1.length + 1 := by omega
      rw [e, hs2, Nat.mul_one, ← mixA_zero]
      rfl
    clear hi24 hz24 hs24 hb24 hi2 hz2 hs2 hb2
    go_enter Try.func27, Try.ntmps27
    go_wp2
    have HR0 := Aside0.mk hr0
    have HR1 := Aside0.mk hr1
    have HV0 := Aside0.mk hv0
    have HV1 := Aside0.mk hv1
    have HBB := Aside0.mk hbb
    have HOO := Aside0.mk hoo
    have H1 := Aside0.mk h1
    have H2 := Aside0.mk h2
    clear hr0 hr1 hv0 hv1 hbb hoo h1 h2 e0N e1N
    go_loopg [10] (l0.length + 1) (fun gg v10 wr => ∃ (s : Nat) (rc rd : Nat → Nat), s ≤ l0.length + 1 ∧ l0.length + 1 - s ≤ gg ∧ v10 = .int .i64 ((l0.length : Int) - s) ∧ Aside0 (alI w l0.length l1.length (fun j => al_row bb oo a2 l0.length l1.length (l0.length - j)) (fun j => al_ch bb oo a2 l0.length l1.length (l0.length - j)) s w.heap.size (w.heap.size + 1) rc rd wr))
    case atStart => exact ⟨0, fun _ => 0, fun _ => 0, Nat.zero_le _, by omega, by go_num, ⟨alI_start _ _⟩⟩
    case round => as_aux_lemma =>
      obtain ⟨s, rc, rq, hs, hg, rfl, AI⟩ := hrel
      obtain ⟨wo, hwo⟩ : ∃ x : World, x = wr := ⟨_, rfl⟩
      subst hwo
      by_cases hlt : s ≤ l0.length
      · obtain ⟨i, hi⟩ : ∃ i : Nat, i + s = l0.length := ⟨l0.length - s, by omega⟩
        have ei : (l0.length : Int) - s = (i : Int) := by omega
        rw [ei]
        have hi0 : decide (0 ≤ (i : Int)) = true := decide_eq_true (by omega)
        go_wp2
        obtain ⟨cs, hcs, hcsn, hcsv⟩ := AI.out.oc
        obtain ⟨ds, hds, hdsn, hdsv⟩ := AI.out.od
        have gc := fun o o' => (al_cell (al_alloc (al_alloc hcs o) o') (i := i) (by omega)).1
        have gf := fun o o' => (al_cell (al_alloc (al_alloc hcs o) o') (i := i) (by omega)).2
        have gc1 := fun o => (al_cell (al_alloc hcs o) (i := i) (by omega)).1
        have gf1 := fun o => (al_cell (al_alloc hcs o) (i := i) (by omega)).2
        have gd := fun o o' v => (al_cell (al_set (al_alloc (al_alloc hds o) o') ⟨w.heap.size, i, none⟩ (by simp) v) (i := i) (by omega)).1
        have gdf := fun o o' v => (al_cell (al_set (al_alloc (al_alloc hds o) o') ⟨w.heap.size, i, none⟩ (by simp) v) (i := i) (by omega)).2
        have ge := fun o o' v => (al_cell (al_alloc (al_set (al_alloc hds o) ⟨w.heap.size, i, none⟩ (by simp) v) o') (i := i) (by omega)).1
        have gef := fun o o' v => (al_cell (al_alloc (al_set (al_alloc hds o) ⟨w.heap.size, i, none⟩ (by simp) v) o') (i := i) (by omega)).2
        have AIb := AI.out.below
        have AIc := AI.out.hcc
        have AId := AI.out.hdc
        have AIn := AI.out.ne
        have HCS := Aside0.mk hcs
        have HDS := Aside0.mk hds
        have na := fun b1 b2 hb => alNew_a (M := l1.length) (i := i) (b1 := b1) (b2 := b2) AIb AIc AId AIn hcs hds hb
        have nb := alNew_b (M := l1.length) (i := i) AIb AIc AId AIn hcs hds
        have NA := Aside0.mk na
        have NB := Aside0.mk nb
        clear na nb AIb AIc AId AIn hcs hds
        refine (fun (fin : Aside0 (∀ (W1 : World) (b1 b2 : Nat), Aside0 (alNew w wo W1 l1.length i w.heap.size (w.heap.size + 1) cs ds b1 b2) → (?G : World → Nat → Nat → Prop) W1 b1 b2)) => ?main) ⟨?fin⟩
        case main =>
          go_region
          · have f := NA.out wo.heap.size (wo.heap.size + 1) (.inl ⟨rfl, rfl⟩)
            generalize wo.heap.size + 1 = b2 at f ⊢
            generalize wo.heap.size = b1 at f ⊢
            generalize ((((wo.alloc (Obj.cells (mixA l1.length (fun _ => 0) 0) 2)).alloc (Obj.cells (mixA l1.length (fun _ => 0) 0) 2)).setCell ⟨w.heap.size, i, none⟩ (Value.slice (some ⟨b1, 0, none⟩) (l1.length + 1) (l1.length + 1))).setCell ⟨w.heap.size + 1, i, none⟩ (Value.slice (some ⟨b2, 0, none⟩) (l1.length + 1) (l1.length + 1))).drew = W1 at f ⊢
            exact fin.out W1 b1 b2 ⟨f⟩
          · have f := NB.out
            generalize wo.heap.size + 1 = b2 at f ⊢
            generalize wo.heap.size = b1 at f ⊢
            generalize ((((wo.alloc (Obj.cells (mixA l1.length (fun _ => 0) 0) 2)).setCell ⟨w.heap.size, i, none⟩ (Value.slice (some ⟨b1, 0, none⟩) (l1.length + 1) (l1.length + 1))).alloc (Obj.cells (mixA l1.length (fun _ => 0) 0) 2)).setCell ⟨w.heap.size + 1, i, none⟩ (Value.slice (some ⟨b2, 0, none⟩) (l1.length + 1) (l1.length + 1))).drew = W1 at f ⊢
            exact fin.out W1 b1 b2 ⟨f⟩
          · have f := NA.out (wo.heap.size + 1) wo.heap.size (.inr ⟨rfl, rfl⟩)
            generalize wo.heap.size + 1 = b1 at f ⊢
            generalize wo.heap.size = b2 at f ⊢
            generalize ((((wo.alloc (Obj.cells (mixA l1.length (fun _ => 0) 0) 2)).alloc (Obj.cells (mixA l1.length (fun _ => 0) 0) 2)).setCell ⟨w.heap.size, i, none⟩ (Value.slice (some ⟨b1, 0, none⟩) (l1.length + 1) (l1.length + 1))).setCell ⟨w.heap.size + 1, i, none⟩ (Value.slice (some ⟨b2, 0, none⟩) (l1.length + 1) (l1.length + 1))).drew = W1 at f ⊢
            exact fin.out W1 b1 b2 ⟨f⟩
        case fin =>
          clear gc gf gc1 gf1 gd gdf ge gef NA NB
          intro W1 b1 b2 NW
          have cc1 : W1.cell? ⟨w.heap.size, i, none⟩ = some (.slice (some ⟨b1, 0, none⟩) (l1.length + 1) (l1.length + 1)) := by
            rw [(al_cell NW.out.oc (i := i) (by rw [Array.size_setIfInBounds]; omega)).1, Array.getElem_setIfInBounds_self]
          have cc2 : W1.cell? ⟨w.heap.size + 1, i, none⟩ = some (.slice (some ⟨b2, 0, none⟩) (l1.length + 1) (l1.length + 1)) := by
            rw [(al_cell NW.out.od (i := i) (by rw [Array.size_setIfInBounds]; omega)).1, Array.getElem_setIfInBounds_self]
          go_wp2
          have CC1 := Aside0.mk cc1
          have CC2 := Aside0.mk cc2
          clear cc1 cc2
          go_loopg [52] (l1.length + 1) (fun gg v52 wk => ∃ k : Nat, k ≤ l1.length + 1 ∧ l1.length + 1 - k ≤ gg ∧ v52 = .int .i64 (k : Int) ∧ Aside0 (alK w l1.length (al_row bb oo a2 l0.length l1.length s) (al_ch bb oo a2 l0.length l1.length s) b1 b2 W1 wk k))
          case atStart => exact ⟨0, Nat.zero_le _, by omega, rfl, ⟨⟨NW.out.below, Nat.le_refl _, fun _ _ _ _ => rfl, (mixA_any _ _ _).symm ▸ NW.out.r1, (mixA_any _ _ _).symm ▸ NW.out.r2⟩⟩⟩
          case round => as_aux_lemma =>
            obtain ⟨k, hk, hg2, rfl, AK⟩ := hrel
            by_cases hkl : k ≤ l1.length
            · have hk0 : decide ((k : Int) < (l1.length : Int) + 1) = true := decide_eq_true (by omega)
              have hbw1 : w.heap.size ≤ b1 := Nat.le_trans AI.out.below.size NW.out.h1
              have hbw2 : w.heap.size ≤ b2 := Nat.le_trans AI.out.below.size NW.out.h2
              have hlc : w.heap.size < wo.heap.size := (Array.getElem?_eq_some_iff.1 HCS.out).1
              have hld : w.heap.size + 1 < wo.heap.size := (Array.getElem?_eq_some_iff.1 HDS.out).1
              have hb1 := NW.out.h1
              have hb2 := NW.out.h2
              have hc1 := alK_cell AK.out CC1.out (by omega) (by omega)
              have hc2 := alK_cell AK.out CC2.out (by omega) (by omega)
              have hr1 := al_cell AK.out.r1 (i := k) (by rw [mixA_size]; omega)
              have hr2 := al_cell AK.out.r2 (i := k) (by rw [mixA_size]; omega)
              by_cases hsN : s = 0
              · subst hsN
                obtain rfl : i = l0.length := by omega
                obtain ⟨hr1c, hr1f⟩ := hr1
                have hmul : 0 ≤ a2 * ((l1.length : Int) - k) ∧ a2 * ((l1.length : Int) - k) ≤ 2000000000000 := al_mul ha0 ha1 (by omega) (by omega)
                clear hr2 hc2 hlc hld hb1 hb2
                go_wp2
                go_roundg (l1.length + 1 - (k + 1))
                case measure => omega
                case rel => exact ⟨k + 1, by omega, by omega, by go_num, ⟨alK_step0 AK.out NW.out.ne hbw1⟩⟩
              · obtain ⟨r, rfl⟩ : ∃ r, s = r + 1 := ⟨s - 1, by omega⟩
                have hiN : i < l0.length := by omega
                have hine : ((i : Int) == (l0.length : Int)) = false := beq_eq_false_iff_ne.mpr (by omega)
                have hrow := AI.out.rows (i + 1) (by omega) (by omega)
                have hrl : rc (i + 1) < wo.heap.size := (Array.getElem?_eq_some_iff.1 hrow.2.2.1).1
                have hrc1 : rc (i + 1) ≠ w.heap.size := fun e => by
                  have h1 := hrow.2.2.1
                  rw [e, HCS.out] at h1
                  simp at h1
                have hrc2 : rc (i + 1) ≠ w.heap.size + 1 := fun e => by
                  have h1 := hrow.2.2.1
                  rw [e, HDS.out] at h1
                  simp at h1
                have hrW := (NW.out.same (rc (i + 1)) hrl hrc1 hrc2).trans hrow.2.2.1
                have er : l0.length - (i + 1) = r := by omega
                simp only [er] at hrW
                have c3 : W1.cell? ⟨w.heap.size, i + 1, none⟩ = some (.slice (some ⟨rc (i + 1), 0, none⟩) (l1.length + 1) (l1.length + 1)) := by
                  rw [(al_cell NW.out.oc (i := i + 1) (by rw [Array.size_setIfInBounds]; omega)).1, ← Array.getElem?_eq_getElem, Array.getElem?_setIfInBounds, if_neg (by omega)]
                  exact hcsv (i + 1) (by omega) (by omega)
                have c3' := alK_cell AK.out c3 (by omega) (by omega)
                have c4 : ∀ q, q ≤ l1.length → W1.cell? ⟨rc (i + 1), q, none⟩ = some (.int .i64 (al_row bb oo a2 l0.length l1.length r q)) := fun q hq => by
                  rw [(al_cell hrW (i := q) (by rw [mixA_size]; omega)).1, ← Array.getElem?_eq_getElem, mixA_get _ _ _ _ hq, if_pos (by omega)]
                have C3 := Aside0.mk c3
                have C4 := Aside0.mk c4
                have c4' := alK_cell AK.out (c4 k hkl) (by omega) (by omega)
                have hbd := fun q (hq : q ≤ l1.length) => al_row_max (b := bb) (o := oo) (N := l0.length) ha0 ha1 hM (r := r) (k := q) (by omega) hq
                have HBD := Aside0.mk hbd
                have hbk := hbd k hkl
                clear hbd c4 c3 hrW hrow
                go_wp2
                have HR1 := Aside0.mk HR1.out
                generalize hal : al_in oo (bb i) a2 (al_row bb oo a2 l0.length l1.length r) l1.length k = al
                have al0 : al 0 = (a2 + al_row bb oo a2 l0.length l1.length r k, -1) := by rw [← hal]; rfl
                have hal1 := fun j (hj : j ≤ l1.length - k) => al_in_b (o := oo) (b := bb i) (nx := al_row bb oo a2 l0.length l1.length r) (k := k) ha0 (fun q hq => (HBD.out q hq).1) hkl j hj
                rw [hal] at hal1
                have AL1 := Aside0.mk hal1
                have AL := Aside0.mk hal
                have AL0 := Aside0.mk al0
                clear hal hal1 al0 hbk c4'
                go_loopg [12, 13, 14] (l1.length - k) (fun gg v12 v13 v14 wm => ∃ j : Nat, j ≤ l1.length - k ∧ l1.length - k - j ≤ gg ∧ v14 = .int .i64 ((l1.length : Int) - 1 - j) ∧ v12 = .int .i64 (al j).1 ∧ v13 = .int .i64 (al j).2 ∧ Aside0 (alK w l1.length (al_row bb oo a2 l0.length l1.length (r + 1)) (al_ch bb oo a2 l0.length l1.length (r + 1)) b1 b2 W1 wm k))
                case atStart => exact ⟨0, Nat.zero_le _, by omega, by go_num, by rw [AL0.out], by rw [AL0.out], AK⟩
                case round => as_aux_lemma =>
                  obtain ⟨j, hj, hg3, rfl, rfl, rfl, AM⟩ := hrel
                  by_cases hjl : j < l1.length - k
                  · as_aux_lemma =>
                    obtain ⟨m, hm⟩ : ∃ m : Nat, m + j + 1 = l1.length := ⟨l1.length - 1 - j, by omega⟩
                    have em : (l1.length : Int) - 1 - j = (m : Int) := by omega
                    rw [em]
                    have hkm : decide ((k : Int) ≤ (m : Int)) = true := decide_eq_true (by omega)
                    have d3 := alK_cell AM.out C3.out (by omega) (by omega)
                    have d4 := alK_cell AM.out (C4.out (m + 1) (by omega)) (by omega) (by omega)
                    have hbm := HBD.out (m + 1) (by omega)
                    obtain ⟨ad0, e0, f1⟩ := Kd.at_int (Kd.C_below HR0.out AM.out.below) (i : Int) (by omega) (by omega)
                    obtain ⟨ad1, e1, f2⟩ := Kd.at_int (Kd.C_below HR1.out AM.out.below) (m : Int) (by omega) (by omega)
                    cases e0
                    cases e1
                    have hy : rd l0 (i : Int) = bb i := by rw [← HBB.out]; rfl
                    have hx : rd l1 (m : Int) = oo m := by rw [← HOO.out]; rfl
                    have hyb : 0 ≤ bb i ∧ bb i ≤ 1000000000 := by rw [← HBB.out]; exact al_get HV0.out i
                    have hxb : 0 ≤ oo m ∧ oo m ≤ 1000000000 := by rw [← HOO.out]; exact al_get HV1.out m
                    rw [hy, Int.toNat_natCast] at f1
                    rw [hx, Int.toNat_natCast] at f2
                    have hmul : 0 ≤ a2 * ((m : Int) - k) ∧ a2 * ((m : Int) - k) ≤ 2000000000000 := al_mul ha0 ha1 (by omega) (by omega)
                    have hal' : al (j + 1) = if a2 * ((m : Int) - k) + (((oo m - bb i).natAbs : Nat) : Int) + al_row bb oo a2 l0.length l1.length r (m + 1) ≤ (al j).1 then (a2 * ((m : Int) - k) + (((oo m - bb i).natAbs : Nat) : Int) + al_row bb oo a2 l0.length l1.length r (m + 1), (m : Int)) else al j := by
                      rw [← AL.out]
                      show (if _ then _ else _) = _
                      rw [show l1.length - 1 - j = m by omega]
                    have HAL := Aside0.mk hal'
                    clear hal' hy hx
                    generalize al_row bb oo a2 l0.length l1.length r (m + 1) = nn at d4 hbm HAL
                    generalize hxe : oo m = x at f2 hxb HAL
                    generalize hye : bb i = y at f1 hyb HAL
                    have hab := al_abs (x - y) (by omega)
                    have habn : (((x - y).natAbs : Nat) : Int) ≤ 1000000000 := by omega
                    clear hxe hye
                    have hml : m < l1.length := by omega
                    have U1 : Aside0 (wrap64 ((i : Int) + 1) = (i : Int) + 1) := ⟨Go.Proofs.YtoohfhgmflgmcaaXW.wid (by omega)⟩
                    have U2 : Aside0 ((0 ≤ (i : Int) + 1) = True) := ⟨eq_true (by omega)⟩
                    have U3 : Aside0 (((i : Int) + 1 < (l0.length : Int) + 1) = True) := ⟨eq_true (by omega)⟩
                    have U4 : Aside0 (((i : Int) + 1).toNat = i + 1) := ⟨by omega⟩
                    have T1 : Aside0 (wrap64 ((m : Int) + 1) = (m : Int) + 1) := ⟨Go.Proofs.YtoohfhgmflgmcaaXW.wid (by omega)⟩
                    have T2 : Aside0 ((0 ≤ (m : Int) + 1) = True) := ⟨eq_true (by omega)⟩
                    have T3 : Aside0 (((m : Int) + 1 < (l1.length : Int) + 1) = True) := ⟨eq_true (by omega)⟩
                    have T4 : Aside0 (((m : Int) + 1).toNat = m + 1) := ⟨by omega⟩
                    have T5 : Aside0 (wrap64 ((m : Int) - k) = (m : Int) - k) := ⟨Go.Proofs.YtoohfhgmflgmcaaXW.wid (by omega)⟩
                    have T6 : Aside0 (wrap64 (a2 * ((m : Int) - k)) = a2 * ((m : Int) - k)) := ⟨Go.Proofs.YtoohfhgmflgmcaaXW.wid (by omega)⟩
                    have T7 : Aside0 (wrap64 (x - y) = x - y) := ⟨Go.Proofs.YtoohfhgmflgmcaaXW.wid (by omega)⟩
                    have T8 : Aside0 (wrap64 (a2 * ((m : Int) - k) + (((x - y).natAbs : Nat) : Int)) = a2 * ((m : Int) - k) + (((x - y).natAbs : Nat) : Int)) := ⟨Go.Proofs.YtoohfhgmflgmcaaXW.wid (by omega)⟩
                    have T9 : Aside0 (wrap64 (a2 * ((m : Int) - k) + (((x - y).natAbs : Nat) : Int) + nn) = a2 * ((m : Int) - k) + (((x - y).natAbs : Nat) : Int) + nn) := ⟨Go.Proofs.YtoohfhgmflgmcaaXW.wid (by omega)⟩
                    go_wp2
                    have u1 := U1.out
                    have u2 := U2.out
                    have u3 := U3.out
                    have u4 := U4.out
                    have t1 := T1.out
                    have t2 := T2.out
                    have t3 := T3.out
                    have t4 := T4.out
                    have t5 := T5.out
                    have t6 := T6.out
                    have t7 := T7.out
                    have t8 := T8.out
                    have t9 := T9.out
                    refine start_ (n := 27) (S := fun w' => w'.cell? (ad0.add i) = some (.int .i64 y) ∧ w'.cell? (ad1.add m) = some (.int .i64 x) ∧ w'.cell? ⟨w.heap.size, i + 1, none⟩ = some (.slice (some ⟨rc (i + 1), 0, none⟩) (l1.length + 1) (l1.length + 1)) ∧ w'.cell? ⟨rc (i + 1), m + 1, none⟩ = some (.int .i64 nn)) (ds := []) #[false, false, false, false, false, false, false, false, false, false, false, false, false, false, false, false, false, false, false, false, false, false, false, false, false, false, false] (by kernel_rfl) rfl rfl ⟨f1, f2, d3, d4⟩ (fun hHeld => ?_)
                    refine with_tabW impl_align.tab16 impl_align.bits16 (fun HT_ HW_ => ?_)
                    refine pure_ (i := 0) (N := some 89) (v := ?_) (a' := ?_) #[true, false, false, false, false, false, false, false, false, false, false, false, false, false, false, false, false, false, false, false, false, false, false, false, false, false, false] rfl rfl (any_of HT_.out (by kernel_rfl)) (fun _ _ _ h => h) (Or.inl ⟨by rfl, ?_⟩) ?_ ?_
                    rotate_left
                    · intro w'
                      go_simp
                      with_reducible rfl
                    rotate_left
                    · simp only [Act.put, List.setIfInBounds_toArray, List.set_cons_zero, List.set_cons_succ, i64_w, i32_w]
                      rfl
                    refine pure_ (i := 1) (N := some 90) (v := ?_) (a' := ?_) #[true, true, false, false, false, false, false, false, false, false, false, false, false, false, false, false, false, false, false, false, false, false, false, false, false, false, false] rfl rfl (any_of HT_.out (by kernel_rfl)) (fun _ _ _ h => h) (Or.inl ⟨by rfl, ?_⟩) ?_ ?_
                    rotate_left
                    · intro w'
                      go_simp
                      with_reducible rfl
                    rotate_left
                    · simp only [Act.put, List.setIfInBounds_toArray, List.set_cons_zero, List.set_cons_succ, i64_w, i32_w]
                      rfl
                    refine pure_ (i := 2) (N := some 91) (v := ?_) (a' := ?_) #[true, true, true, false, false, false, false, false, false, false, false, false, false, false, false, false, false, false, false, false, false, false, false, false, false, false, false] rfl rfl (any_of HT_.out (by kernel_rfl)) (fun _ _ _ h => h) (Or.inl ⟨by rfl, ?_⟩) ?_ ?_
                    rotate_left
                    · intro w'
                      go_simp
                      with_reducible rfl
                    rotate_left
                    · simp only [Act.put, List.setIfInBounds_toArray, List.set_cons_zero, List.set_cons_succ, i64_w, i32_w]
                      rfl
                    refine pure_ (i := 3) (N := some 92) (v := ?_) (a' := ?_) #[true, true, true, true, false, false, false, false, false, false, false, false, false, false, false, false, false, false, false, false, false, false, false, false, false, false, false] rfl rfl (any_of HT_.out (by kernel_rfl)) (fun _ _ _ h => h) (Or.inl ⟨by rfl, ?_⟩) ?_ ?_
                    rotate_left
                    · intro w'
                      go_simp
                      with_reducible rfl
                    rotate_left
                    · simp only [Act.put, List.setIfInBounds_toArray, List.set_cons_zero, List.set_cons_succ, i64_w, i32_w]
                      rfl
                    refine pure_ (i := 4) (N := some 93) (v := ?_) (a' := ?_) #[true, true, true, true, true, false, false, false, false, false, false, false, false, false, false, false, false, false, false, false, false, false, false, false, false, false, false] rfl rfl (any_of HT_.out (by kernel_rfl)) (fun _ _ _ h => h) (Or.inl ⟨by rfl, ?_⟩) ?_ ?_
                    rotate_left
                    · intro w'
                      go_simp
                      with_reducible rfl
                    rotate_left
                    · simp only [Act.put, List.setIfInBounds_toArray, List.set_cons_zero, List.set_cons_succ, i64_w, i32_w]
                      rfl
                    refine pure_ (i := 5) (N := some 94) (v := ?_) (a' := ?_) #[true, true, true, true, true, true, false, false, false, false, false, false, false, false, false, false, false, false, false, false, false, false, false, false, false, false, false] rfl rfl (any_of HT_.out (by kernel_rfl)) (fun _ _ _ h => h) (Or.inl ⟨by rfl, ?_⟩) ?_ ?_
                    rotate_left
                    · intro w'
                      go_simp
                      with_reducible rfl
                    rotate_left
                    · simp only [Act.put, List.setIfInBounds_toArray, List.set_cons_zero, List.set_cons_succ, i64_w, i32_w]
                      rfl
                    refine pure_ (i := 6) (N := some 95) (v := ?_) (a' := ?_) #[true, true, true, true, true, true, true, false, false, false, false, false, false, false, false, false, false, false, false, false, false, false, false, false, false, false, false] rfl rfl (any_of HT_.out (by kernel_rfl)) (fun _ _ _ h => h) (Or.inl ⟨by rfl, ?_⟩) ?_ ?_
                    rotate_left
                    · intro w'
                      go_simp
                      with_reducible rfl
                    rotate_left
                    · simp only [Act.put, List.setIfInBounds_toArray, List.set_cons_zero, List.set_cons_succ, i64_w, i32_w]
                      rfl
                    refine pure_ (i := 7) (N := some 96) (v := ?_) (a' := ?_) #[true, true, true, true, true, true, true, true, false, false, false, false, false, false, false, false, false, false, false, false, false, false, false, false, false, false, false] rfl rfl (any_of HT_.out (by kernel_rfl)) (fun _ _ _ h => h) (Or.inl ⟨by rfl, ?_⟩) ?_ ?_
                    rotate_left
                    · intro w'
                      go_simp
                      with_reducible rfl
                    rotate_left
                    · simp only [Act.put, List.setIfInBounds_toArray, List.set_cons_zero, List.set_cons_succ, i64_w, i32_w]
                      rfl
                    refine pure_ (i := 9) (N := some 98) (v := ?_) (a' := ?_) #[true, true, true, true, true, true, true, true, false, true, false, false, false, false, false, false, false, false, false, false, false, false, false, false, false, false, false] rfl rfl (any_of HT_.out (by kernel_rfl)) (fun _ _ _ h => h) (Or.inl ⟨by rfl, ?_⟩) ?_ ?_
                    rotate_left
                    · intro w'
                      go_simp
                      with_reducible rfl
                    rotate_left
                    · simp only [Act.put, List.setIfInBounds_toArray, List.set_cons_zero, List.set_cons_succ, i64_w, i32_w]
                      rfl
                    refine pure_ (i := 10) (N := some 99) (v := ?_) (a' := ?_) #[true, true, true, true, true, true, true, true, false, true, true, false, false, false, false, false, false, false, false, false, false, false, false, false, false, false, false] rfl rfl (any_of HT_.out (by kernel_rfl)) (fun _ _ _ h => h) (Or.inl ⟨by rfl, ?_⟩) ?_ ?_
                    rotate_left
                    · intro w'
                      go_simp
                      with_reducible rfl
                    rotate_left
                    · simp only [Act.put, List.setIfInBounds_toArray, List.set_cons_zero, List.set_cons_succ, i64_w, i32_w]
                      rfl
                    refine pure_ (i := 11) (N := some 100) (v := ?_) (a' := ?_) #[true, true, true, true, true, true, true, true, false, true, true, true, false, false, false, false, false, false, false, false, false, false, false, false, false, false, false] rfl rfl (any_of HT_.out (by kernel_rfl)) (fun _ _ _ h => h) (Or.inl ⟨by rfl, ?_⟩) ?_ ?_
                    rotate_left
                    · intro w'
                      go_simp
                      with_reducible rfl
                    rotate_left
                    · simp only [Act.put, List.setIfInBounds_toArray, List.set_cons_zero, List.set_cons_succ, i64_w, i32_w]
                      rfl
                    refine pure_ (i := 16) (N := some 105) (v := ?_) (a' := ?_) #[true, true, true, true, true, true, true, true, false, true, true, true, false, false, false, false, true, false, false, false, false, false, false, false, false, false, false] rfl rfl (any_of HT_.out (by kernel_rfl)) (fun _ _ _ h => h) (Or.inl ⟨by rfl, ?_⟩) ?_ ?_
                    rotate_left
                    · intro w'
                      go_simp
                      with_reducible rfl
                    rotate_left
                    · simp only [Act.put, List.setIfInBounds_toArray, List.set_cons_zero, List.set_cons_succ, i64_w, i32_w]
                      rfl
                    refine pure_ (i := 17) (N := some 106) (v := ?_) (a' := ?_) #[true, true, true, true, true, true, true, true, false, true, true, true, false, false, false, false, true, true, false, false, false, false, false, false, false, false, false] rfl rfl (any_of HT_.out (by kernel_rfl)) (fun _ _ _ h => h) (Or.inl ⟨by rfl, ?_⟩) ?_ ?_
                    rotate_left
                    · intro w'
                      go_simp
                      with_reducible rfl
                    rotate_left
                    · simp only [Act.put, List.setIfInBounds_toArray, List.set_cons_zero, List.set_cons_succ, i64_w, i32_w]
                      rfl
                    refine pure_ (i := 18) (N := some 107) (v := ?_) (a' := ?_) #[true, true, true, true, true, true, true, true, false, true, true, true, false, false, false, false, true, true, true, false, false, false, false, false, false, false, false] rfl rfl (any_of HT_.out (by kernel_rfl)) (fun _ _ _ h => h) (Or.inl ⟨by rfl, ?_⟩) ?_ ?_
                    rotate_left
                    · intro w'
                      go_simp
                      with_reducible rfl
                    rotate_left
                    · simp only [Act.put, List.setIfInBounds_toArray, List.set_cons_zero, List.set_cons_succ, i64_w, i32_w]
                      rfl
                    refine pure_ (i := 19) (N := some 108) (v := ?_) (a' := ?_) #[true, true, true, true, true, true, true, true, false, true, true, true, false, false, false, false, true, true, true, true, false, false, false, false, false, false, false] rfl rfl (any_of HT_.out (by kernel_rfl)) (fun _ _ _ h => h) (Or.inl ⟨by rfl, ?_⟩) ?_ ?_
                    rotate_left
                    · intro w'
                      go_simp
                      with_reducible rfl
                    rotate_left
                    · simp only [Act.put, List.setIfInBounds_toArray, List.set_cons_zero, List.set_cons_succ, i64_w, i32_w]
                      rfl
                    refine pure_ (i := 21) (N := some 110) (v := ?_) (a' := ?_) #[true, true, true, true, true, true, true, true, false, true, true, true, false, false, false, false, true, true, true, true, false, true, false, false, false, false, false] rfl rfl (any_of HT_.out (by kernel_rfl)) (fun _ _ _ h => h) (Or.inl ⟨by rfl, ?_⟩) ?_ ?_
                    rotate_left
                    · intro w'
                      go_simp
                      with_reducible rfl
                    rotate_left
                    · simp only [Act.put, List.setIfInBounds_toArray, List.set_cons_zero, List.set_cons_succ, i64_w, i32_w]
                      rfl
                    refine pure_ (i := 22) (N := some 111) (v := ?_) (a' := ?_) #[true, true, true, true, true, true, true, true, false, true, true, true, false, false, false, false, true, true, true, true, false, true, true, false, false, false, false] rfl rfl (any_of HT_.out (by kernel_rfl)) (fun _ _ _ h => h) (Or.inl ⟨by rfl, ?_⟩) ?_ ?_
                    rotate_left
                    · intro w'
                      go_simp
                      with_reducible rfl
                    rotate_left
                    · simp only [Act.put, List.setIfInBounds_toArray, List.set_cons_zero, List.set_cons_succ, i64_w, i32_w]
                      rfl
                    refine take_ (i := 8) (N := some 97) (v := ?_) (a' := ?_) #[true, true, true, true, true, true, true, true, true, true, true, true, false, false, false, false, true, true, true, true, false, true, true, false, false, false, false] rfl rfl (take_ofW HT_.out HW_.out (by kernel_rfl)) (fun _ _ _ h => h) (Or.inl ⟨by rfl, ?_⟩) hHeld ?_ ?_
                    rotate_left
                    · rintro w' ⟨s0, s1, s2, s3⟩
                      go_simp
                      with_reducible rfl
                    rotate_left
                    · simp only [Act.put, List.setIfInBounds_toArray, List.set_cons_zero, List.set_cons_succ, i64_w, i32_w]
                      rfl
                    refine take_ (i := 12) (N := some 101) (v := ?_) (a' := ?_) #[true, true, true, true, true, true, true, true, true, true, true, true, true, false, false, false, true, true, true, true, false, true, true, false, false, false, false] rfl rfl (take_ofW HT_.out HW_.out (by kernel_rfl)) (fun _ _ _ h => h) (Or.inl ⟨by rfl, ?_⟩) hHeld ?_ ?_
                    rotate_left
                    · rintro w' ⟨s0, s1, s2, s3⟩
                      go_simp
                      with_reducible rfl
                    rotate_left
                    · simp only [Act.put, List.setIfInBounds_toArray, List.set_cons_zero, List.set_cons_succ, i64_w, i32_w]
                      rfl
                    refine pure_ (i := 13) (N := some 102) (v := ?_) (a' := ?_) #[true, true, true, true, true, true, true, true, true, true, true, true, true, true, false, false, true, true, true, true, false, true, true, false, false, false, false] rfl rfl (any_of HT_.out (by kernel_rfl)) (fun _ _ _ h => h) (Or.inl ⟨by rfl, ?_⟩) ?_ ?_
                    rotate_left
                    · intro w'
                      go_simp
                      with_reducible rfl
                    rotate_left
                    · simp only [Act.put, List.setIfInBounds_toArray, List.set_cons_zero, List.set_cons_succ, i64_w, i32_w]
                      rfl
                    refine take_ (i := 20) (N := some 109) (v := ?_) (a' := ?_) #[true, true, true, true, true, true, true, true, true, true, true, true, true, true, false, false, true, true, true, true, true, true, true, false, false, false, false] rfl rfl (take_ofW HT_.out HW_.out (by kernel_rfl)) (fun _ _ _ h => h) (Or.inl ⟨by rfl, ?_⟩) hHeld ?_ ?_
                    rotate_left
                    · rintro w' ⟨s0, s1, s2, s3⟩
                      go_simp
                      with_reducible rfl
                    rotate_left
                    · simp only [Act.put, List.setIfInBounds_toArray, List.set_cons_zero, List.set_cons_succ, i64_w, i32_w]
                      rfl
                    refine pure_ (i := 23) (N := some 112) (v := ?_) (a' := ?_) #[true, true, true, true, true, true, true, true, true, true, true, true, true, true, false, false, true, true, true, true, true, true, true, true, false, false, false] rfl rfl (any_of HT_.out (by kernel_rfl)) (fun _ _ _ h => h) (Or.inl ⟨by rfl, ?_⟩) ?_ ?_
                    rotate_left
                    · intro w'
                      go_simp
                      with_reducible rfl
                    rotate_left
                    · simp only [Act.put, List.setIfInBounds_toArray, List.set_cons_zero, List.set_cons_succ, i64_w, i32_w]
                      rfl
                    refine take_ (i := 24) (N := some 113) (v := ?_) (a' := ?_) #[true, true, true, true, true, true, true, true, true, true, true, true, true, true, false, false, true, true, true, true, true, true, true, true, true, false, false] rfl rfl (take_ofW HT_.out HW_.out (by kernel_rfl)) (fun _ _ _ h => h) (Or.inl ⟨by rfl, ?_⟩) hHeld ?_ ?_
                    rotate_left
                    · rintro w' ⟨s0, s1, s2, s3⟩
                      go_simp
                      with_reducible rfl
                    rotate_left
                    · simp only [Act.put, List.setIfInBounds_toArray, List.set_cons_zero, List.set_cons_succ, i64_w, i32_w]
                      rfl
                    refine one_ (i := 14) (N := some 103) #[true, true, true, true, true, true, true, true, true, true, true, true, true, true, true, false, true, true, true, true, true, true, true, true, true, false, false] rfl rfl (one_of HT_.out (by kernel_rfl)) (by decide) (fun K hK => ?_)
                    refine goes_ Try.func43 (by kernel_rfl) rfl #[.int .i64 (wrap64 (x - y))] (by rfl) rfl rfl (by (try simp only [List.map_toArray, List.map_cons, List.map_nil]); first | done | rfl | (simp only [List.length_drop, List.length_take]; rfl)) ?_
                    with_reducible refine (impl_abs.calls (wrap64 (x - y)) ((x - y).natAbs : Int) _ (t7.symm ▸ hab)).mono ?_
                    rintro e w7 ⟨rfl, hb7⟩
                    have AM7 := Aside0.mk (alK_below (alK_drew AM.out) hb7)
                    have hk7 : ∀ p v, wr.cell? p = some v → w7.cell? p = some v := fun p v e => (hb7.cell (World.block_lt_of_cell? wr.drew _ e)).trans e
                    refine ⟨_, rfl, ?_⟩
                    refine hK.out _ _ ⟨hk7 _ _ f1, hk7 _ _ f2, hk7 _ _ d3, hk7 _ _ d4⟩ (fun hHeld => ?_)
                    clear hK K hk7 hb7
                    refine norm_ (a' := ?_) ?_ ?_
                    rotate_left
                    · show Act.put _ (some 103) _ = _
                      simp only [Act.put, List.setIfInBounds_toArray, List.set_cons_zero, List.set_cons_succ, i64_w, i32_w]
                      rfl
                    refine pure_ (i := 15) (N := some 104) (v := ?_) (a' := ?_) #[true, true, true, true, true, true, true, true, true, true, true, true, true, true, true, true, true, true, true, true, true, true, true, true, true, false, false] rfl rfl (any_of HT_.out (by kernel_rfl)) (fun _ _ _ h => h) (Or.inl ⟨by rfl, ?_⟩) ?_ ?_
                    rotate_left
                    · intro w'
                      go_simp
                      with_reducible rfl
                    rotate_left
                    · simp only [Act.put, List.setIfInBounds_toArray, List.set_cons_zero, List.set_cons_succ, i64_w, i32_w]
                      rfl
                    refine pure_ (i := 25) (N := some 114) (v := ?_) (a' := ?_) #[true, true, true, true, true, true, true, true, true, true, true, true, true, true, true, true, true, true, true, true, true, true, true, true, true, true, false] rfl rfl (any_of HT_.out (by kernel_rfl)) (fun _ _ _ h => h) (Or.inl ⟨by rfl, ?_⟩) ?_ ?_
                    rotate_left
                    · intro w'
                      go_simp
                      with_reducible rfl
                    rotate_left
                    · simp only [Act.put, List.setIfInBounds_toArray, List.set_cons_zero, List.set_cons_succ, i64_w, i32_w]
                      rfl
                    refine pure_ (i := 26) (N := some 15) (v := ?_) (a' := ?_) #[true, true, true, true, true, true, true, true, true, true, true, true, true, true, true, true, true, true, true, true, true, true, true, true, true, true, true] rfl rfl (any_of HT_.out (by kernel_rfl)) (fun _ _ _ h => h) (Or.inl ⟨by rfl, ?_⟩) ?_ ?_
                    rotate_left
                    · intro w'
                      go_simp
                      with_reducible rfl
                    rotate_left
                    · simp only [Act.put, List.setIfInBounds_toArray, List.set_cons_zero, List.set_cons_succ, i64_w, i32_w]
                      rfl
                    refine done_ (done_of HT_.out (by kernel_rfl)) ?_
                    clear hHeld f1 f2 d3 d4 u1 u2 u3 u4 t1 t2 t3 t4 t5 t6 t7 t8 t9
                    by_cases hle : a2 * ((m : Int) - k) + (((x - y).natAbs : Nat) : Int) + nn ≤ (al j).1
                    · go_wp2
                      go_roundg (l1.length - k - (j + 1))
                      case measure => omega
                      case rel => exact ⟨j + 1, by omega, by omega, by go_num, by rw [HAL.out, if_pos hle], by rw [HAL.out, if_pos hle], AM7⟩
                    · go_wp2
                      go_roundg (l1.length - k - (j + 1))
                      case measure => omega
                      case rel => exact ⟨j + 1, by omega, by omega, by go_num, by rw [HAL.out, if_neg (Int.not_le.2 hle)], by rw [HAL.out, if_neg (Int.not_le.2 hle)], AM7⟩
                  · as_aux_lemma =>
                    obtain rfl : j = l1.length - k := by omega
                    have em : (l1.length : Int) - 1 - ((l1.length - k : Nat) : Int) = (k : Int) - 1 := by omega
                    rw [em]
                    have hkm : decide ((k : Int) ≤ (k : Int) - 1) = false := decide_eq_false (by omega)
                    have ev1 : (al (l1.length - k)).1 = al_row bb oo a2 l0.length l1.length (r + 1) k := by
                      rw [← AL.out]
                      show _ = (al_in oo (bb (l0.length - 1 - r)) a2 _ _ _ _).1
                      rw [show l0.length - 1 - r = i by omega]
                    have ev2 : (al (l1.length - k)).2 = al_ch bb oo a2 l0.length l1.length (r + 1) k := by
                      rw [← AL.out]
                      show _ = (al_in oo (bb (l0.length - 1 - r)) a2 _ _ _ _).2
                      rw [show l0.length - 1 - r = i by omega]
                    rw [ev1, ev2]
                    clear ev1 ev2 em hj
                    have g1 := alK_cell AM.out CC1.out (by omega) (by omega)
                    have g2 := alK_cell AM.out CC2.out (by omega) (by omega)
                    have ⟨p1, p1f⟩ := al_cell AM.out.r1 (i := k) (by rw [mixA_size]; omega)
                    have ⟨p2, p2f⟩ := al_cell AM.out.r2 (i := k) (by rw [mixA_size]; omega)
                    have p3 := fun v => al_cell (al_set AM.out.r2 ⟨b1, k, none⟩ (Ne.symm NW.out.ne) v) (i := k) (by rw [mixA_size]; omega)
                    have p4 := fun v => al_cell (al_set AM.out.r1 ⟨b2, k, none⟩ NW.out.ne v) (i := k) (by rw [mixA_size]; omega)
                    have p3c := fun v => (p3 v).1
                    have p3f := fun v => (p3 v).2
                    have p4c := fun v => (p4 v).1
                    have p4f := fun v => (p4 v).2
                    clear p3 p4
                    go_wp2
                    go_region
                    go_wp2
                    go_roundg (l1.length + 1 - (k + 1))
                    case measure => omega
                    case rel => exact ⟨k + 1, by omega, by omega, by go_num, ⟨alK_drew (alK_step AM.out NW.out.ne hbw1 hbw2)⟩⟩
            · obtain rfl : k = l1.length + 1 := by omega
              have hk0 : decide (((l1.length + 1 : Nat) : Int) < (l1.length : Int) + 1) = false := decide_eq_false (by omega)
              have AKs : Aside0 (alK w l1.length (al_row bb oo a2 l0.length l1.length (l0.length - i)) (al_ch bb oo a2 l0.length l1.length (l0.length - i)) b1 b2 W1 wr (l1.length + 1)) := by
                have e : l0.length - i = s := by omega
                rw [e]
                exact AK
              have AI2 := Aside0.mk (alI_step AI.out hi HCS.out hcsn hcsv HDS.out hdsn hdsv NW.out AKs.out)
              go_wp2
              go_roundg (l0.length + 1 - (s + 1))
              case measure => omega
              case rel => exact ⟨s + 1, _, _, by omega, by omega, by go_num, AI2⟩
      · obtain rfl : s = l0.length + 1 := by omega
        have ei : (l0.length : Int) - ((l0.length + 1 : Nat) : Int) = -1 := by omega
        rw [ei]
        have hmk3 : ∀ (W : World), (Instr.makeSlice 24 (.int .i64 (l0.length : Int)) (.int .i64 (l0.length : Int))).run Try.prog W = .ok (.slice (some ⟨W.heap.size, 0, none⟩) l0.length l0.length) (W.alloc (.cells (mixR l0.length (fun _ => 0) 0) 2)) := by
          obtain ⟨i2, hi2, hz2, hs2, hb2⟩ := info_parts (show (Try.prog.info? 2).map (fun i => (i.zero, i.size, i.bytes)) = some (some (.int .i64 0), 1, 8) by kernel_rfl)
          intro W
          rw [run_make (P := Try.prog) W 24 2 i2 (.int .i64 0) Try.underlying24 hi2 hz2 .i64 .i64 (l0.length : Int) (l0.length : Int) (by omega) (by omega) (by rw [hb2]; omega) (by omega)]
          rw [Int.toNat_natCast, hs2, Nat.mul_one, ← mixR_zero]
          rfl
        clear hg hs hmk1 hmk2
        go_wp2
        have Hmb := Aside0.mk AI.out.below.size
        generalize hmb : wo.heap.size = mb
        go_loopg [17, 140] l0.length (fun gg v17 v140 wm => ∃ i : Nat, i ≤ l0.length ∧ l0.length - i ≤ gg ∧ v140 = .int .i64 (i : Int) ∧ v17 = .int .i64 (al_nx bb oo a2 l0.length l1.length i) ∧ Aside0 (alM w wo l0.length (fun i => al_ch bb oo a2 l0.length l1.length (l0.length - i) (al_nx bb oo a2 l0.length l1.length i).toNat) mb wm i))
        case atStart => exact ⟨0, Nat.zero_le _, by omega, rfl, rfl, ⟨hmb ▸ alM_start AI.out.below⟩⟩
        case round => as_aux_lemma =>
          obtain ⟨i, hi, hg, rfl, rfl, AM⟩ := hrel
          have hwm : w.heap.size ≤ mb := by rw [← hmb]; exact Hmb.out
          have hwo : wo.heap.size ≤ mb := Nat.le_of_eq hmb
          have HMB := Aside0.mk hmb
          clear hmb
          by_cases hil : i < l0.length
          · as_aux_lemma =>
            have hi0 : decide ((i : Int) < (l0.length : Int)) = true := decide_eq_true (by omega)
            obtain ⟨ds, hds, hdsn, hdsv⟩ := AI.out.od
            have hrow := (AI.out.rows i (by omega) (by omega)).2.2.2
            have hnb := al_nx_b bb oo a2 l0.length l1.length ha0 i (by omega)
            have c1 : wo.cell? ⟨w.heap.size + 1, i, none⟩ = some (.slice (some ⟨rq i, 0, none⟩) (l1.length + 1) (l1.length + 1)) := by
              rw [(al_cell hds (i := i) (by omega)).1, ← Array.getElem?_eq_getElem]
              exact hdsv i (by omega) (by omega)
            have c2 : wo.cell? ⟨rq i, (al_nx bb oo a2 l0.length l1.length i).toNat, none⟩ = some (.int .i64 (al_ch bb oo a2 l0.length l1.length (l0.length - i) (al_nx bb oo a2 l0.length l1.length i).toNat)) := by
              rw [(al_cell hrow (i := (al_nx bb oo a2 l0.length l1.length i).toNat) (by rw [mixA_size]; omega)).1, ← Array.getElem?_eq_getElem, mixA_get _ _ _ _ (by omega), if_pos (by omega)]
            have d1 := alM_cell AM.out c1
            have d2 := alM_cell AM.out c2
            have ⟨p1, p1f⟩ := al_cell AM.out.r (i := i) (by rw [mixR_size]; omega)
            have AM2 := alM_step AM.out hwo hwm hil
            have p2 := alM_read AM.out hil
            have hcb := al_ch_b bb oo a2 l0.length l1.length ha0 (l0.length - i) (al_nx bb oo a2 l0.length l1.length i).toNat (by omega) (by omega)
            have hnx : al_nx bb oo a2 l0.length l1.length (i + 1) = if 0 ≤ al_ch bb oo a2 l0.length l1.length (l0.length - i) (al_nx bb oo a2 l0.length l1.length i).toNat then al_ch bb oo a2 l0.length l1.length (l0.length - i) (al_nx bb oo a2 l0.length l1.length i).toNat + 1 else al_nx bb oo a2 l0.length l1.length i := rfl
            have HNX := Aside0.mk hnx
            have HAM2 := Aside0.mk AM2
            clear hnx AM2 c1 c2 hrow hds hdsv hdsn

            generalize hch : al_ch bb oo a2 l0.length l1.length (l0.length - i) (al_nx bb oo a2 l0.length l1.length i).toNat = ch at d2 p2 hcb HNX HAM2
            generalize hny : al_nx bb oo a2 l0.length l1.length i = ny at d2 hnb HNX hch ⊢
            have HCH := Aside0.mk hch
            clear hch
            obtain ⟨q, rfl⟩ := Int.eq_ofNat_of_zero_le hnb.1
            rw [Int.toNat_natCast] at d2
            have hq : decide ((q : Int) < (l1.length : Int) + 1) = true := decide_eq_true (by omega)
            clear hny
            by_cases h0 : 0 ≤ ch
            · rw [if_pos h0] at HNX
              have hd : decide (0 ≤ ch) = true := decide_eq_true h0
              go_wp2
              go_roundg (l0.length - (i + 1))
              case measure => omega
              case rel => exact ⟨i + 1, by omega, by omega, by go_num, by rw [HNX.out], HAM2⟩
            · rw [if_neg h0] at HNX
              have hd : decide (0 ≤ ch) = false := decide_eq_false h0
              go_wp2
              go_roundg (l0.length - (i + 1))
              case measure => omega
              case rel => exact ⟨i + 1, by omega, by omega, by go_num, by rw [HNX.out], HAM2⟩
          · obtain rfl : i = l0.length := by omega
            obtain ⟨cs, hcs, hcsn, hcsv⟩ := AI.out.oc
            have hrow := (AI.out.rows 0 (by omega) (by omega)).2.2.1
            have c1 : wo.cell? ⟨w.heap.size, 0, none⟩ = some (.slice (some ⟨rc 0, 0, none⟩) (l1.length + 1) (l1.length + 1)) := by
              rw [(al_cell hcs (i := 0) (by omega)).1, ← Array.getElem?_eq_getElem]
              exact hcsv 0 (by omega) (by omega)
            have c2 : wo.cell? ⟨rc 0, 0, none⟩ = some (.int .i64 (al_row bb oo a2 l0.length l1.length l0.length 0)) := by
              rw [(al_cell hrow (i := 0) (by rw [mixA_size]; omega)).1, ← Array.getElem?_eq_getElem, mixA_get _ _ _ _ (by omega), if_pos (by omega)]
              rfl
            have d1 := alM_cell AM.out c1
            have d2 := alM_cell AM.out c2
            rw [H2.out] at d2
            have RR := Aside0.mk (alM_R AM.out hwm hN)
            clear c1 c2 hrow hcs hcsn hcsv
            go_wp2
            go_region
            go_wp2
            go_ret2
            exact ⟨_, rfl, by rw [← H1.out]; exact Kd.R_drew RR.out, AM.out.below.drew⟩
  · rw [if_neg c] at H
    exact absurd H (by simp)

end Go.Proofs.Ytoohfhgmflgmcaa.PFnAlignment
