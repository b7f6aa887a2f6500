-- written by xprint.py, a program of this repo over the kit's print; not trusted: Lean checks it
import Derived.Test.YtlcciappjbppfaaPFnComposedx0
import Derived.Test.YtlcciappjbppfaaPFnComposedx1
import Derived.Test.YtlcciappjbppfaaPFnComposedx2
import Derived.Test.YtlcciappjbppfaaPFnComposedx3
import Derived.Maps.OwnOps
import Derived.Maps.Views
import Derived.DeepKeys4
namespace Go.Proofs.Ytlcciappjbppfaa.PFnComposed
open Go.RowKit Go.Proofs.YtlcciappjbppfaaW.PrintWords Go.Proofs.YtlcciappjbppfaaW.PrintLast Go.Proofs.YtlcciappjbppfaaW.PrintMore
attribute [local go_sem] max2_int min2_int max_two min_two max_three min_three max_four min_four   -- for this text's walks alone
set_option linter.unusedVariables false
set_option linter.unusedSimpArgs false

/-! ### impl_FirstComposed: function 12, by hand -/
def fc_next (a b h : Int) : Int × Int := if h = 1 then (wrap64 (a + 1), 0) else if h = 2 then (0, wrap64 (b + 1)) else (wrap64 (a + 1), wrap64 (b + 1))
def fc_loop (F : List (Int × Int × Int) → List Int → Int → Int → Int → Option (Bool × List (Int × Int × Int) × List Int)) (m a b u : Int) : List S49 → Nat → List (Int × Int × Int) → List Int → Option (Bool × List (Int × Int × Int) × List Int)
  | [], _, M, C => if M.length < 1000000 then some (false, M ++ [(a, b, u)], C) else none
  | x :: xs, i, M, C => if u < x.f2 ∨ m < mx (fc_next a b x.f1).1 (fc_next a b x.f1).2 then fc_loop F m a b u xs (i + 1) M C else if C.length < 1000000 then (F M (C ++ [(i : Int)]) (fc_next a b x.f1).1 (fc_next a b x.f1).2 (wrap64 (u - x.f2))).bind fun r => if r.1 = true then some r else if 0 < r.2.2.length then fc_loop F m a b u xs (i + 1) r.2.1 (r.2.2.take (r.2.2.length - 1)) else none else none
def fc_f : Nat → List S49 → Int → List (Int × Int × Int) → List Int → Int → Int → Int → Option (Bool × List (Int × Int × Int) × List Int)
  | 0, _, _, _, _, _, _, _ => none
  | k + 1, l, m, M, C, a, b, u => if u = 0 then some (true, M, C) else if (a, b, u) ∈ M then some (false, M, C) else fc_loop (fc_f k l m) m a b u l 0 M C
theorem fc_loop.mono {F G : List (Int × Int × Int) → List Int → Int → Int → Int → Option (Bool × List (Int × Int × Int) × List Int)} (h : ∀ M C a b u, LeO (F M C a b u) (G M C a b u)) (m a b u : Int) : ∀ l i M C, LeO (fc_loop F m a b u l i M C) (fc_loop G m a b u l i M C)
  | [], _, _, _ => LeO.refl _
  | x :: xs, i, M, C => by
    unfold fc_loop
    exact LeO.ite (fc_loop.mono h m a b u xs _ _ _) (LeO.ite (LeO.bind (h _ _ _ _ _) (fun _ => LeO.ite (LeO.refl _) (LeO.ite (fc_loop.mono h m a b u xs _ _ _) (LeO.refl _)))) (LeO.refl _))
theorem fc_f.mono : ∀ k l m M C a b u, LeO (fc_f k l m M C a b u) (fc_f (k + 1) l m M C a b u)
  | 0, _, _, _, _, _, _, _ => fun r h => by simp [fc_f] at h
  | k + 1, l, m, M, C, a, b, u => by
    unfold fc_f
    exact LeO.ite (LeO.refl _) (LeO.ite (LeO.refl _) (fc_loop.mono (fun M C a b u => fc_f.mono k l m M C a b u) m a b u _ _ _ _))
theorem fc_nextf (a b : Int) (s : ByteArray) (h u : Int) : impl_playedRuns_next.f a b s h u = some (fc_next a b h) := by
  unfold impl_playedRuns_next.f fc_next
  split
  · rfl
  · split <;> rfl
open Go.Maps Go.ChangeShapes Go.WideShapes in
theorem fc_law : Keyed Try.prog 79 := Keyed.of_law (deep_law_laid (by kernel_rfl) (m := 3) (by omega) (of_decide_eq_true (by kernel_rfl)) (by kernel_rfl) (by kernel_rfl))
def fc_kv (t : Int × Int × Int) : Value := .agg #[.int .i64 t.1, .int .i64 t.2.1, .int .i64 t.2.2]
def fc_wf (t : Int × Int × Int) : Prop := (Lit.int .i64 t.1).wf = true ∧ (Lit.int .i64 t.2.1).wf = true ∧ (Lit.int .i64 t.2.2).wf = true
theorem fc_kt : Try.prog.keyType 79 = true := by kernel_rfl
theorem fc_c56 : Try.prog.cellsOf 56 = 2 := by kernel_rfl
theorem fc_c79 : Try.prog.cellsOf 79 = 3 := by kernel_rfl
theorem fc_c2 : Try.prog.cellsOf 2 = 1 := by kernel_rfl
theorem fc_ts : 2 ≤ Try.prog.types.size := of_decide_eq_true (by kernel_rfl)
theorem fc_kl2 (d : Nat) (a : Int) (h : (Lit.int .i64 a).wf = true) : Try.prog.keyLits (d + 1) 2 [.int .i64 a] = some [.int .i64 a] := by
  unfold Program.keyLits
  rw [Try.underlying2]
  simp only [h, and_self, if_true]
theorem fc_kl56 (d : Nat) (a b : Int) (h : (Lit.int .i64 a).wf = true) (h' : (Lit.int .i64 b).wf = true) : Try.prog.keyLits (d + 2) 56 [.int .i64 a, .int .i64 b] = some [.int .i64 a, .int .i64 b] := by
  unfold Program.keyLits
  rw [Try.underlying56]
  simp [fc_c56, fc_c2, fc_kl2 d _ h, fc_kl2 d _ h']
theorem fc_kl79 (d : Nat) (a b c : Int) (h : (Lit.int .i64 a).wf = true) (h' : (Lit.int .i64 b).wf = true) (h'' : (Lit.int .i64 c).wf = true) : Try.prog.keyLits (d + 3) 79 [.int .i64 a, .int .i64 b, .int .i64 c] = some [.int .i64 a, .int .i64 b, .int .i64 c] := by
  unfold Program.keyLits
  rw [Try.underlying79]
  simp [fc_c79, fc_c56, fc_c2, fc_kl2 (d + 1) _ h'', fc_kl56 d _ _ h h']
theorem fc_key (t : Int × Int × Int) (h : fc_wf t) : ∃ kl, keyOf Try.prog 79 (fc_kv t) = some kl := by
  obtain ⟨a, b, c⟩ := t
  obtain ⟨h1, h2, h3⟩ := h
  have hf : (fc_kv (a, b, c)).formed Try.prog 79 = true := by
    unfold fc_kv Value.formed
    rw [Try.underlying79]
    simp [fc_c79]
  have hk := fc_kl79 (Try.prog.types.size - 2) a b c h1 h2 h3
  rw [show Try.prog.types.size - 2 + 3 = Try.prog.types.size + 1 by have := fc_ts; omega] at hk
  have hc : (fc_kv (a, b, c)).cells.toList = [.int .i64 a, .int .i64 b, .int .i64 c] := rfl
  unfold keyOf
  rw [Try.underlying79]
  simp only [fc_kt, hf, hc, hk, Bool.and_self, if_true, Option.map_some]
  exact ⟨_, rfl⟩
theorem fc_kv_inj {s t : Int × Int × Int} (h : fc_kv s = fc_kv t) : s = t := by
  obtain ⟨a, b, c⟩ := s
  obtain ⟨a', b', c'⟩ := t
  unfold fc_kv at h
  simp at h
  obtain ⟨h1, h2, h3⟩ := h
  rw [h1, h2, h3]
theorem fc_zero (w : World) : (zeroValue 4).run Try.prog w = .ok (.bool false) w := by kernel_rfl
/-- The block mb is a map of at most so many entries as M has, in which just M's states are. -/
def fc_M (w : World) (mb : Nat) (M : List (Int × Int × Int)) : Prop := ∃ D : DataW Unit, w.ownsMap Try.prog 79 (plainElem Try.prog 4) mb M.length D ∧ Go.Maps.IsMap D ∧ ∀ t kl, fc_wf t → keyOf Try.prog 79 (fc_kv t) = some kl → D.atKey kl (.lit (.bool false)) = .lit (.bool (decide (t ∈ M)))
theorem fc_bool_inv {v : Value} {z : DataW Unit × List MemPlace} (h : plainElem Try.prog 4 v = some z) : ∃ b, v = .bool b ∧ z = (.lit (.bool b), []) := by
  unfold plainElem at h
  rw [Try.underlying4] at h
  cases v <;> simp at h
  exact ⟨_, rfl, h.symm⟩
theorem fc_look {w : World} {mb : Nat} {M : List (Int × Int × Int)} (h : fc_M w mb M) (t : Int × Int × Int) (hw : fc_wf t) : (Instr.lookup 51 (.map (some mb)) (fc_kv t) false).run Try.prog w = .ok (.bool (decide (t ∈ M))) w := by
  obtain ⟨D, ho, hD, hat⟩ := h
  obtain ⟨kl, hkl⟩ := fc_key t hw
  obtain ⟨v, ps, hrun, hv⟩ := ho.lookup fc_law Try.underlying51 (fc_zero w) (plainElem_bool Try.underlying4 false) hkl
  obtain ⟨q, rfl, e⟩ := fc_bool_inv hv
  rw [hat t kl hw hkl] at e
  simp at e
  rw [hrun, ← e.1]
theorem fc_kept {w w1 : World} {mb : Nat} {M : List (Int × Int × Int)} (h : fc_M w mb M) {row : Option Nat} (hg : w.grownBy w1 row) (hne : some mb ≠ row) : fc_M w1 mb M := by
  obtain ⟨D, ho, hD, hat⟩ := h
  exact ⟨D, ho.kept hg hne, hD, hat⟩
theorem fc_map {w : World} {mb : Nat} {M : List (Int × Int × Int)} (h : fc_M w mb M) : ∃ es c, w.heap[mb]? = some (.map es c) := by
  obtain ⟨D, ho, hD, hat⟩ := h
  obtain ⟨es, c, hb, _⟩ := ho
  exact ⟨es, c, hb⟩
theorem fc_same {w w1 : World} {mb : Nat} {M : List (Int × Int × Int)} (h : fc_M w mb M) (he : w1.heap[mb]? = w.heap[mb]?) : fc_M w1 mb M := by
  obtain ⟨D, ⟨es, c, hb, F, hs, hD'⟩, hD, hat⟩ := h
  exact ⟨D, ⟨es, c, he.trans hb, F, hs, hD'⟩, hD, hat⟩
theorem fc_put {w1 : World} {mb : Nat} {M : List (Int × Int × Int)} {t : Int × Int × Int} {kl : Lit} {D : DataW Unit} (hD : Go.Maps.IsMap D) (hat : ∀ t kl, fc_wf t → keyOf Try.prog 79 (fc_kv t) = some kl → D.atKey kl (.lit (.bool false)) = .lit (.bool (decide (t ∈ M)))) (hkl : keyOf Try.prog 79 (fc_kv t) = some kl)
    (ho : w1.ownsMap Try.prog 79 (plainElem Try.prog 4) mb (M.length + 1) (D.put kl (.lit (.bool true)))) : fc_M w1 mb (M ++ [t]) := by
  refine ⟨_, by rw [List.length_append]; exact ho, hD.put _ _, fun s kl' hs hkl' => ?_⟩
  by_cases e : s = t
  · subst e
    have : kl' = kl := Option.some.inj (hkl'.symm.trans hkl)
    subst this
    rw [Go.Maps.atKey_put_same hD (fc_law.key hkl)]
    simp
  · rw [Go.Maps.atKey_put_other (fun e' => e (fc_kv_inj (fc_law.inj hkl' (by rw [e']; exact hkl)))), hat s kl' hs hkl']
    simp [e]
theorem fc_typed {w : World} {mb q t : Nat} {M : List (Int × Int × Int)} {cs : Array Value} (h : fc_M w mb M) (hq : w.heap[q]? = some (.cells cs t (0, 0))) : q ≠ mb := by
  rintro rfl
  obtain ⟨es, c, hb⟩ := fc_map h
  rw [hq] at hb
  cases hb
theorem fc_mne {w : World} {mb base : Nat} {M : List (Int × Int × Int)} {v : Value} {C : List Int} (h : fc_M w mb M) (hv : Kd.R (Kd.int .i64) 2 w base (fun _ => True) v C) : some mb ≠ v.ownBlock := by
  intro e
  obtain ⟨cs, hc⟩ := Kd.R_typed hv mb e.symm
  exact fc_typed h hc rfl
def fcS (g mb : Nat) (v : Value) : Nat → Prop := fun q => q = g ∨ q = mb ∨ v.ownBlock = some q
theorem fc_stays {w w1 : World} {g mb q t base : Nat} {M : List (Int × Int × Int)} {v : Value} {C : List Int} {cs cs' : Array Value} (hk : Kept w w1 (fcS g mb v)) (hg : w.heap[g]? = some (.cells cs' 53 (0, 0))) (hm : fc_M w mb M) (hv : Kd.R (Kd.int .i64) 2 w base (fun _ => True) v C)
    (hq : w.heap[q]? = some (.cells cs t (0, 0))) (ht : t ≠ 53) (ht2 : t ≠ 2) : w1.heap[q]? = some (.cells cs t (0, 0)) := by
  rw [hk.2 q (blk_lt hq), hq]
  rintro (e | e | e)
  · subst e
    rw [hq] at hg
    simp at hg
    exact ht hg.2
  · exact fc_typed hm hq e
  · obtain ⟨c2, h2⟩ := Kd.R_typed hv q e
    rw [hq] at h2
    simp at h2
    exact ht2 h2.2
theorem fc_drop {α : Type} (l : List α) (d : α) (i : Nat) (h : i < l.length) : l.drop i = l.getD i d :: l.drop (i + 1) := by
  rw [List.drop_eq_getElem_cons h, List.getD_eq_getElem?_getD, List.getElem?_eq_getElem h]
  rfl
def fcP (g mb A0n : Nat) (hd : Array Value) (w0 w w' : World) (v : Value) (e : Ending) (r : Bool) (M : List (Int × Int × Int)) (C : List Int) : Prop := e = .returned (.bool r) ∧ ∃ v', w'.heap[g]? = some (.cells (hd.push v') 53 (0, 0)) ∧ fc_M w' mb M ∧ Kd.R (Kd.int .i64) 2 w' w0.heap.size (fun _ => True) v' C ∧ Below w0.heap.size w0 w' ∧ Kept w w' (fcS g mb v) ∧ (v'.ownBlock = v.ownBlock ∨ ∃ q, v'.ownBlock = some q ∧ w.heap.size ≤ q)
theorem fc_put3 {W : World} {g : Nat} {a b c x y z : Value} (h : W.heap[g]? = some (.cells #[a, b, c] 79 (0, 0))) : (((W.setCell ⟨g, 0, none⟩ x).setCell ⟨g, 1, none⟩ y).setCell ⟨g, 2, none⟩ z).heap[g]? = some (.cells #[x, y, z] 79 (0, 0)) := by
  refine blk_put (cs := #[x, y, c]) ?_ 2 _ rfl
  refine blk_put (cs := #[x, b, c]) ?_ 1 _ rfl
  refine blk_put (cs := #[a, b, c]) ?_ 0 _ rfl
  exact h
theorem fc_below {w w1 : World} {mb : Nat} {M : List (Int × Int × Int)} (h : fc_M w mb M) (hb : Below w.heap.size w w1) : fc_M w1 mb M := by
  obtain ⟨es, c, he⟩ := fc_map h
  exact fc_same h (hb.block mb (blk_lt he))
theorem fc_putx {W : World} {g : Nat} {a b c x y z : Value} (h : W.heap[g]? = some (.cells #[a, b, c] 49 (0, 0))) : (((W.setCell ⟨g, 0, none⟩ x).setCell ⟨g, 1, none⟩ y).setCell ⟨g, 2, none⟩ z).heap[g]? = some (.cells #[x, y, z] 49 (0, 0)) := by
  refine blk_put (cs := #[x, y, c]) ?_ 2 _ rfl
  refine blk_put (cs := #[x, b, c]) ?_ 1 _ rfl
  refine blk_put (cs := #[a, b, c]) ?_ 0 _ rfl
  exact h
theorem fc_next_wf (a b h : Int) : (Lit.int .i64 (fc_next a b h).1).wf = true ∧ (Lit.int .i64 (fc_next a b h).2).wf = true := by
  unfold fc_next
  split
  · exact ⟨wrap64_wf _, rfl⟩
  · split
    · exact ⟨rfl, wrap64_wf _⟩
    · exact ⟨wrap64_wf _, wrap64_wf _⟩
theorem fc_putn {W : World} {g : Nat} {a b x y : Value} (h : W.heap[g]? = some (.cells #[a, b] 56 (0, 0))) : ((W.setCell ⟨g, 0, none⟩ x).setCell ⟨g, 1, none⟩ y).heap[g]? = some (.cells #[x, y] 56 (0, 0)) := by
  refine blk_put (cs := #[x, b]) ?_ 1 _ rfl
  refine blk_put (cs := #[a, b]) ?_ 0 _ rfl
  exact h
def fc_T8 : Bool × List (List Nat × List Nat) := (true, [([], []), ([0], [0]), ([], []), ([1, 2], [1, 2]), ([3], [3]), ([4], [4]), ([5, 4, 4], [4, 5]), ([4], [4]), ([7, 4], [4, 7]), ([8, 4], [4, 8]), ([9, 4], [4, 9]), ([6, 10, 4], [4, 6, 10]), ([4, 11], [4, 11])])
def fc_B8 : List Nat := [0, 1, 0, 7, 15, 31, 63, 31, 159, 415, 927, 2047, 4095]
theorem fc_tab8 : rtab .any (opsOf Try.f32 8) = fc_T8 := by kernel_rfl
theorem fc_bits8 : waitsOk fc_T8.2 fc_B8 = true := by kernel_rfl
theorem fc_info2 : (Try.prog.info? 2).map (fun i => (i.zero, i.size, i.bytes)) = some (some (.int .i64 0), 1, 8) := by kernel_rfl
/-- Behind an append to the row and the store of what it hands back: all else stands. -/
theorem fc_push {w w1 : World} {g mb base : Nat} {M : List (Int × Int × Int)} {v v1 : Value} {C C1 : List Int} {a b c d : Value} (hg : w.heap[g]? = some (.cells #[a, b, c, d, v] 53 (0, 0))) (hm : fc_M w mb M) (hv : Kd.R (Kd.int .i64) 2 w base (fun _ => True) v C) (h1 : w.grownBy w1 v.ownBlock) (hv1 : Kd.R (Kd.int .i64) 2 w1 base (fun _ => True) v1 C1) :
    (w1.setCell ⟨g, 4, none⟩ v1).heap[g]? = some (.cells #[a, b, c, d, v1] 53 (0, 0)) ∧ fc_M (w1.setCell ⟨g, 4, none⟩ v1) mb M ∧ Kd.R (Kd.int .i64) 2 (w1.setCell ⟨g, 4, none⟩ v1) base (fun _ => True) v1 C1 ∧ Kept w (w1.setCell ⟨g, 4, none⟩ v1) (fcS g mb v) := by
  have hg1 := blk_grown hg h1 (Kd.R_ne hv hg (by decide))
  have hsz : (w1.setCell ⟨g, 4, none⟩ v1).heap.size = w1.heap.size := by simp [World.setCell]
  refine ⟨blk_put hg1 4 _ rfl, ?_, Kd.R_set hv1 hg1 (by decide) 4 v1, ?_, fun q hq hn => ?_⟩
  · refine fc_same (fc_kept hm h1 (fc_mne hm hv)) (Below.heap_setCell _ _ _ _ ?_)
    exact Ne.symm (fc_typed hm hg)
  · rw [hsz]; exact h1.size
  · rw [Below.heap_setCell _ _ _ _ (fun e => hn (.inl e))]
    exact h1.block q hq (fun e => hn (.inr (.inr e.symm)))
theorem fc_cut {w : World} {g mb base : Nat} {M : List (Int × Int × Int)} {v v1 : Value} {C1 : List Int} {a b c d : Value} (hg : w.heap[g]? = some (.cells #[a, b, c, d, v] 53 (0, 0))) (hm : fc_M w mb M) (hv1 : Kd.R (Kd.int .i64) 2 w base (fun _ => True) v1 C1) :
    (w.setCell ⟨g, 4, none⟩ v1).heap[g]? = some (.cells #[a, b, c, d, v1] 53 (0, 0)) ∧ fc_M (w.setCell ⟨g, 4, none⟩ v1) mb M ∧ Kd.R (Kd.int .i64) 2 (w.setCell ⟨g, 4, none⟩ v1) base (fun _ => True) v1 C1 ∧ Kept w (w.setCell ⟨g, 4, none⟩ v1) (fun q => q = g) := by
  have hsz : (w.setCell ⟨g, 4, none⟩ v1).heap.size = w.heap.size := by simp [World.setCell]
  refine ⟨blk_put hg 4 _ rfl, fc_same hm (Below.heap_setCell _ _ _ _ (Ne.symm (fc_typed hm hg))), Kd.R_set hv1 hg (by decide) 4 v1, ?_, fun q hq hn => Below.heap_setCell _ _ _ _ hn⟩
  rw [hsz]; exact Nat.le_refl _
theorem fc_ob {w w1 : World} {v v1 v2 : Value} (h : v1.ownBlock = v.ownBlock ∨ ∃ q, v1.ownBlock = some q ∧ w.heap.size ≤ q) (hs : w.heap.size ≤ w1.heap.size) (h2 : v2.ownBlock = v1.ownBlock ∨ ∃ q, v2.ownBlock = some q ∧ w1.heap.size ≤ q) : v2.ownBlock = v.ownBlock ∨ ∃ q, v2.ownBlock = some q ∧ w.heap.size ≤ q := by
  rcases h2 with h2 | ⟨q, h2, h3⟩
  · rw [h2]; exact h
  · exact .inr ⟨q, h2, Nat.le_trans hs h3⟩
theorem fc_sub {w : World} {g mb : Nat} {v v1 : Value} (h : v1.ownBlock = v.ownBlock ∨ ∃ q, v1.ownBlock = some q ∧ w.heap.size ≤ q) : ∀ k, fcS g mb v1 k → fcS g mb v k ∨ w.heap.size ≤ k := by
  rintro k (e | e | e)
  · exact .inl (.inl e)
  · exact .inl (.inr (.inl e))
  · rcases h with h | ⟨q, h, h3⟩
    · exact .inl (.inr (.inr (h ▸ e)))
    · rw [h] at e
      obtain rfl := Option.some.inj e
      exact .inr h3
theorem fc_own (A : Option Addr) (n n' c : Nat) : (Value.slice A n c).ownBlock = (Value.slice A n' c).ownBlock := by cases A <;> rfl
theorem fc_upd {w : World} {mb : Nat} {M : List (Int × Int × Int)} (h : fc_M w mb M) (t : Int × Int × Int) (hw : fc_wf t) (hl : M.length < 1000000) : ∃ w1, (Instr.mapUpdate 51 (.map (some mb)) (fc_kv t) (.bool true)).run Try.prog w = .ok () w1 ∧ fc_M w1 mb (M ++ [t]) ∧ w.grownBy w1 (some mb) := by
  obtain ⟨D, ho, hD, hat⟩ := h
  obtain ⟨kl, hkl⟩ := fc_key t hw
  obtain ⟨w1, hrun, ho1, hg1⟩ := ho.update fc_law Try.underlying51 (by unfold maxLen; omega) hkl (plainElem_bool Try.underlying4 true)
  exact ⟨w1, hrun, fc_put hD hat hkl ho1, hg1⟩
set_option maxHeartbeats 8000000 in
set_option maxRecDepth 100000 in
theorem fc_calls (k : Nat) : ∀ (g mb c0 : Nat) (A0 : Option Addr) (l : List S49) (m bud : Int) (M : List (Int × Int × Int)) (C : List Int) (v : Value) (a b u : Int) (r : Bool) (M' : List (Int × Int × Int)) (C' : List Int) (w0 w : World)
    (hg : w.heap[g]? = some (.cells #[.slice A0 l.length c0, .int .i64 m, .int .i64 bud, .map (some mb), v] 53 (0, 0))) (hgw : w0.heap.size ≤ g) (hmw : w0.heap.size ≤ mb) (hm : fc_M w mb M) (hv : Kd.R (Kd.int .i64) 2 w w0.heap.size (fun _ => True) v C)
    (hl : Kd.C k49 w0 A0 l.length l) (hlc : l.length ≤ c0) (hB : Below w0.heap.size w0 w) (hwf : fc_wf (a, b, u)) (h : fc_f k l m M C a b u = some (r, M', C')),
    Calls Try.prog 32 #[.pointer (some ⟨g, 0, none⟩), .agg #[.int .i64 a, .int .i64 b], .int .i64 u] w fun e w' => fcP g mb 0 #[.slice A0 l.length c0, .int .i64 m, .int .i64 bud, .map (some mb)] w0 w w' v e r M' C' := by
  induction k with
  | zero => intro g mb c0 A0 l m bud M C v a b u r M' C' w0 w hg hgw hmw hm hv hl hlc hB hwf h; exact absurd h (by simp [fc_f])
  | succ k ih =>
  intro g mb c0 A0 l m bud M C v a b u r M' C' w0 w hg hgw hmw hm hv hl hlc hB hwf h
  have IH := Aside0.mk ih
  have HG := Aside0.mk hg
  have HM := Aside0.mk hm
  have HV := Aside0.mk hv
  have HL := Aside0.mk hl
  have HB := Aside0.mk hB
  have HWF := Aside0.mk hwf
  have HF := Aside0.mk h
  clear ih hg hm hv hl hB hwf h
  have hu56 := Try.underlying56
  go_enter Try.func32, Try.ntmps32
  go_upto_region 2 with (first | ((with_reducible refine gate_dst (N := 4) rfl ?_); refine box_event ?hg (N := 4) ?hd (cs := #[.int .i64 a, .int .i64 b]) (t := 56) ?hr ?_; (case hd => rfl); (case hg => rfl); (case hr => first | (go_simp; done) | (go_simp; rfl)); intro gb hg wB hbox hb; have BW := Aside0.mk hb; have GB := Aside0.mk hg; have BKB := Aside0.mk hbox; clear hb hg hbox; have hb0_ : wB.cell? ⟨gb, 0, none⟩ = some (.int .i64 a) := (blk_cell BKB.out 0).trans rfl; have hb1_ : wB.cell? ⟨gb, 1, none⟩ = some (.int .i64 b) := (blk_cell BKB.out 1).trans rfl) | ((with_reducible refine gate_dst (N := 7) rfl ?_); refine box_event ?hg (N := 7) ?hd (cs := #[.int .i64 0, .int .i64 0, .int .i64 0]) (t := 79) ?hr ?_; (case hd => rfl); (case hg => rfl); (case hr => first | (go_simp; done) | (go_simp; rfl)); intro gs hg wS hbox hb; have BWS := Aside0.mk hb; have GS := Aside0.mk hg; have BKS := Aside0.mk hbox; clear hb hg hbox; have hc0_ : wS.cell? ⟨gs, 0, none⟩ = some (.int .i64 0) := (blk_cell BKS.out 0).trans rfl; have hc1_ : wS.cell? ⟨gs, 1, none⟩ = some (.int .i64 0) := (blk_cell BKS.out 1).trans rfl; have hc2_ : wS.cell? ⟨gs, 2, none⟩ = some (.int .i64 0) := (blk_cell BKS.out 2).trans rfl; have hf0_ := blk_frozen BKS.out 0; have hf1_ := blk_frozen BKS.out 1; have hf2_ := blk_frozen BKS.out 2) | fail)
  have hX := fc_put3 (x := .int .i64 a) (y := .int .i64 b) (z := .int .i64 u) BKS.out
  have hXB : Below wB.heap.size wB (((wS.setCell ⟨gs, 0, none⟩ (.int .i64 a)).setCell ⟨gs, 1, none⟩ (.int .i64 b)).setCell ⟨gs, 2, none⟩ (.int .i64 u)) := below_set (below_set (below_set BWS.out (by rw [GS.out]; exact Nat.le_refl _)) (by rw [GS.out]; exact Nat.le_refl _)) (by rw [GS.out]; exact Nat.le_refl _)
  clear hb0_ hb1_ hc0_ hc1_ hc2_ hf0_ hf1_ hf2_ BKS BWS GS
  generalize (((wS.setCell ⟨gs, 0, none⟩ (.int .i64 a)).setCell ⟨gs, 1, none⟩ (.int .i64 b)).setCell ⟨gs, 2, none⟩ (.int .i64 u)) = wT at hX hXB ⊢
  have BT := Aside0.mk (below_step BW.out hXB)
  have BKS := Aside0.mk hX
  have n0_ := Aside0.mk (blk_below BKB.out hXB)
  have n1_ := Aside0.mk (blk_below HG.out BT.out)
  have n2_ := Aside0.mk (fc_below HM.out BT.out)
  have n3_ := Aside0.mk (Kd.R_below HV.out BT.out)
  have n4_ := Aside0.mk (below_step HB.out BT.out)
  have KT := Aside0.mk (Kept.of_below BT.out (fcS g mb v))
  have WLT := Aside0.mk BT.out.size
  clear BKB HG HM HV HB hX hXB BW GB
  have BKB := n0_
  have HG := n1_
  have HM := n2_
  have HV := n3_
  have HB := n4_
  clear n0_ n1_ n2_ n3_ n4_
  have H := HF.out
  unfold fc_f at H
  clear HF
  by_cases hu : u = 0
  · subst hu
    rw [if_pos rfl] at H
    simp only [Option.some.injEq, Prod.mk.injEq] at H
    obtain ⟨rfl, rfl, rfl⟩ := H
    clear BT
    go_wp2
    go_region
    go_wp2
    go_ret
    exact ⟨rfl, v, HG.out, HM.out, HV.out, HB.out.drew, KT.out, .inl rfl⟩
  · rw [if_neg hu] at H
    have hub : (u == 0) = false := beq_eq_false_iff_ne.mpr hu
    have hlk := fun (W : World) (hW : W.heap[mb]? = wT.heap[mb]?) => fc_look (fc_same HM.out hW) (a, b, u) HWF.out
    by_cases hin : (a, b, u) ∈ M
    · rw [if_pos hin] at H
      simp only [Option.some.injEq, Prod.mk.injEq] at H
      obtain ⟨rfl, rfl, rfl⟩ := H
      rw [decide_eq_true hin] at hlk
      have hq1 := fun n => hlk (wT.drewN n) rfl
      have hq2 := hlk wT.drew rfl
      unfold fc_kv at hq1 hq2
      dsimp only at hq1 hq2
      have hcm : wT.cell? ⟨g, 3, none⟩ = some (.map (some mb)) := (blk_cell HG.out 3).trans rfl
      have hc0 : wT.cell? ⟨gs, 0, none⟩ = some (.int .i64 a) := (blk_cell BKS.out 0).trans rfl
      have hc1 : wT.cell? ⟨gs, 1, none⟩ = some (.int .i64 b) := (blk_cell BKS.out 1).trans rfl
      have hc2 : wT.cell? ⟨gs, 2, none⟩ = some (.int .i64 u) := (blk_cell BKS.out 2).trans rfl
      clear BT hlk
      go_wp2
      go_region
      go_wp2
      go_ret
      exact ⟨rfl, v, HG.out, HM.out, HV.out, HB.out.drew, KT.out, .inl rfl⟩
    · rw [if_neg hin] at H
      rw [decide_eq_false hin] at hlk
      have hq1 := fun n => hlk (wT.drewN n) rfl
      have hq2 := hlk wT.drew rfl
      unfold fc_kv at hq1 hq2
      dsimp only at hq1 hq2
      have hcm : wT.cell? ⟨g, 3, none⟩ = some (.map (some mb)) := (blk_cell HG.out 3).trans rfl
      have hcl : wT.cell? ⟨g, 0, none⟩ = some (.slice A0 l.length c0) := (blk_cell HG.out 0).trans rfl
      have hc0 : wT.cell? ⟨gs, 0, none⟩ = some (.int .i64 a) := (blk_cell BKS.out 0).trans rfl
      have hc1 : wT.cell? ⟨gs, 1, none⟩ = some (.int .i64 b) := (blk_cell BKS.out 1).trans rfl
      have hc2 : wT.cell? ⟨gs, 2, none⟩ = some (.int .i64 u) := (blk_cell BKS.out 2).trans rfl
      have HF := Aside0.mk H
      clear BT hlk H
      go_wp2
      go_region
      go_wp2
      clear hcm hcl hc0 hc1 hc2 hq1 hq2
      have hlb : l.length ≤ 9223372036854775807 := HL.out.2.1
      go_loopg [31] l.length (fun gg v31 wr => ∃ (ii : Nat) (M1 : List (Int × Int × Int)) (C1 : List Int) (v1 : Value), ii ≤ l.length ∧ l.length - ii ≤ gg ∧ v31 = .int .i64 ii ∧ Aside0 (fc_loop (fc_f k l m) m a b u (l.drop ii) ii M1 C1 = some (r, M', C')) ∧ Aside0 (wr.heap[gb]? = some (.cells #[.int .i64 a, .int .i64 b] 56 (0, 0))) ∧ Aside0 (wr.heap[gs]? = some (.cells #[.int .i64 a, .int .i64 b, .int .i64 u] 79 (0, 0))) ∧ Aside0 (wr.heap[g]? = some (.cells #[.slice A0 l.length c0, .int .i64 m, .int .i64 bud, .map (some mb), v1] 53 (0, 0))) ∧ Aside0 (fc_M wr mb M1) ∧ Aside0 (Kd.R (Kd.int .i64) 2 wr w0.heap.size (fun _ => True) v1 C1) ∧ Aside0 (Below w0.heap.size w0 wr) ∧ Aside0 (Kept w wr (fcS g mb v)) ∧ Aside0 (v1.ownBlock = v.ownBlock ∨ ∃ q, v1.ownBlock = some q ∧ w.heap.size ≤ q))
      case atStart => exact ⟨0, M, C, v, by omega, by omega, rfl, HF, BKB, BKS, HG, HM, HV, ⟨HB.out.drew⟩, KT, ⟨.inl rfl⟩⟩
      case round =>
        clear HF BKB BKS HG HM HV HB KT hin
        obtain ⟨ii, M1, C1, v1, hii, hgg, rfl, HF, BKB, BKS, HG, HM, HV, HB, KT, OB⟩ := hrel
        by_cases hlt : ii < l.length
        · have hltz : (ii : Int) < (l.length : Int) := by omega
          have H := HF.out
          rw [fc_drop l z49 ii hlt] at H
          unfold fc_loop at H
          obtain ⟨ad, e1, hx0, hx1, hx2⟩ := at_T49 HL.out (ii : Int) (by omega) hltz
          subst e1
          replace hx0 := pw_cell_below HB.out hx0
          replace hx1 := pw_cell_below HB.out hx1
          replace hx2 := pw_cell_below HB.out hx2
          have er : rd_T49 l (ii : Int) = l.getD ii z49 := by unfold rd_T49; rw [Int.toNat_natCast]
          rw [er] at hx0 hx1 hx2
          clear er
          rw [Int.toNat_natCast] at hx0 hx1 hx2
          generalize l.getD ii z49 = x at H hx0 hx1 hx2
          have HF' := Aside0.mk H
          clear HF H
          have hb0_ : wr.cell? ⟨gb, 0, none⟩ = some (.int .i64 a) := (blk_cell BKB.out 0).trans rfl
          have hb1_ : wr.cell? ⟨gb, 1, none⟩ = some (.int .i64 b) := (blk_cell BKB.out 1).trans rfl
          go_upto_region 7 with (first | ((with_reducible refine gate_dst (N := 9) rfl ?_); refine box_event ?hg (N := 9) ?hd (cs := #[.string (⟨#[]⟩ : ByteArray), .int .i64 0, .int .i64 0]) (t := 49) ?hr ?_; (case hd => rfl); (case hg => rfl); (case hr => first | (go_simp; done) | (go_simp; rfl)); intro gx hg wX hbox hb; have BX := Aside0.mk hb; have GX := Aside0.mk hg; have BKX := Aside0.mk hbox; clear hb hg hbox; have hd0_ : wX.cell? ⟨gx, 0, none⟩ = some (.string (⟨#[]⟩ : ByteArray)) := (blk_cell BKX.out 0).trans rfl; have hd1_ : wX.cell? ⟨gx, 1, none⟩ = some (.int .i64 0) := (blk_cell BKX.out 1).trans rfl; have hd2_ : wX.cell? ⟨gx, 2, none⟩ = some (.int .i64 0) := (blk_cell BKX.out 2).trans rfl; have hf0_ := blk_frozen BKX.out 0; have hf1_ := blk_frozen BKX.out 1; have hf2_ := blk_frozen BKX.out 2) | fail)
          have hXB : Below wr.heap.size wr (((wX.setCell ⟨gx, 0, none⟩ (.string x.f0)).setCell ⟨gx, 1, none⟩ (.int .i64 x.f1)).setCell ⟨gx, 2, none⟩ (.int .i64 x.f2)) := below_set (below_set (below_set BX.out (by rw [GX.out]; exact Nat.le_refl _)) (by rw [GX.out]; exact Nat.le_refl _)) (by rw [GX.out]; exact Nat.le_refl _)
          have hX := fc_putx (x := .string x.f0) (y := .int .i64 x.f1) (z := .int .i64 x.f2) BKX.out
          clear hx0 hx1 hx2 hb0_ hb1_ hd0_ hd1_ hd2_ hf0_ hf1_ hf2_ BX GX BKX
          generalize (((wX.setCell ⟨gx, 0, none⟩ (.string x.f0)).setCell ⟨gx, 1, none⟩ (.int .i64 x.f1)).setCell ⟨gx, 2, none⟩ (.int .i64 x.f2)) = wY at hX hXB ⊢
          have BKX := Aside0.mk hX
          have n0_ := Aside0.mk (blk_below BKB.out hXB)
          have n1_ := Aside0.mk (blk_below BKS.out hXB)
          have n2_ := Aside0.mk (blk_below HG.out hXB)
          have n3_ := Aside0.mk (fc_below HM.out hXB)
          have n4_ := Aside0.mk (Kd.R_below HV.out hXB)
          have n5_ := Aside0.mk (below_step HB.out hXB)
          have n6_ := Aside0.mk (KT.out.then_ (Kept.of_below hXB (fun _ => False)) (fun _ h => h.elim))
          clear BKB BKS HG HM HV HB KT hX hXB
          have BKB := n0_
          have BKS := n1_
          have HG := n2_
          have HM := n3_
          have HV := n4_
          have HB := n5_
          have KT := n6_
          clear n0_ n1_ n2_ n3_ n4_ n5_ n6_
          have hb0_ : wY.cell? ⟨gb, 0, none⟩ = some (.int .i64 a) := (blk_cell BKB.out 0).trans rfl
          have hb1_ : wY.cell? ⟨gb, 1, none⟩ = some (.int .i64 b) := (blk_cell BKB.out 1).trans rfl
          have hx0_ : wY.cell? ⟨gx, 0, none⟩ = some (.string x.f0) := (blk_cell BKX.out 0).trans rfl
          have hx1_ : wY.cell? ⟨gx, 1, none⟩ = some (.int .i64 x.f1) := (blk_cell BKX.out 1).trans rfl
          have hx2_ : wY.cell? ⟨gx, 2, none⟩ = some (.int .i64 x.f2) := (blk_cell BKX.out 2).trans rfl
          have NX := Aside0.mk (fc_nextf a b x.f0 x.f1 x.f2)
          have hnw : (Lit.int .i64 (fc_next a b x.f1).1).wf = true ∧ (Lit.int .i64 (fc_next a b x.f1).2).wf = true := fc_next_wf a b x.f1
          generalize fc_next a b x.f1 = nx at HF' NX hnw
          obtain ⟨n1, n2⟩ := nx
          dsimp only at HF' NX hnw
          have NW := Aside0.mk hnw
          clear hnw
          go_wp2_with (fail)
          refine (impl_playedRuns_next.calls a b x.f0 x.f1 x.f2 n1 n2 _ NX.out).mono ?_
          rintro e wN ⟨rfl, hb_⟩
          have c0_ := Aside0.mk (blk_below BKB.out hb_)
          have c1_ := Aside0.mk (blk_below BKS.out hb_)
          have c2_ := Aside0.mk (blk_below BKX.out hb_)
          have c3_ := Aside0.mk (blk_below HG.out hb_)
          have c4_ := Aside0.mk (fc_below HM.out hb_)
          have c5_ := Aside0.mk (Kd.R_below HV.out hb_)
          have c6_ := Aside0.mk (below_step HB.out hb_)
          have c7_ := Aside0.mk (KT.out.then_ (Kept.of_below hb_ (fun _ => False)) (fun _ h => h.elim))
          clear BKB BKS BKX HG HM HV HB KT
          have BKB := c0_
          have BKS := c1_
          have BKX := c2_
          have HG := c3_
          have HM := c4_
          have HV := c5_
          have HB := c6_
          have KT := c7_
          clear c0_ c1_ c2_ c3_ c4_ c5_ c6_ c7_
          clear hb_ hb0_ hb1_ hx0_ hx1_ hx2_
          dsimp only
          go_upto_region 8 with (first | ((with_reducible refine gate_dst (N := 10) rfl ?_); refine box_event ?hg (N := 10) ?hd (cs := #[.int .i64 0, .int .i64 0]) (t := 56) ?hr ?_; (case hd => rfl); (case hg => rfl); (case hr => first | (go_simp; done) | (go_simp; rfl)); intro gn hg wM hbox hb; have BN := Aside0.mk hb; have GN := Aside0.mk hg; have BKN := Aside0.mk hbox; clear hb hg hbox; have hd0_ : wM.cell? ⟨gn, 0, none⟩ = some (.int .i64 0) := (blk_cell BKN.out 0).trans rfl; have hd1_ : wM.cell? ⟨gn, 1, none⟩ = some (.int .i64 0) := (blk_cell BKN.out 1).trans rfl; have hf0_ := blk_frozen BKN.out 0; have hf1_ := blk_frozen BKN.out 1) | fail)
          have hXB : Below wN.heap.size wN ((wM.setCell ⟨gn, 0, none⟩ (.int .i64 n1)).setCell ⟨gn, 1, none⟩ (.int .i64 n2)) := below_set (below_set BN.out (by rw [GN.out]; exact Nat.le_refl _)) (by rw [GN.out]; exact Nat.le_refl _)
          have hX := fc_putn (x := .int .i64 n1) (y := .int .i64 n2) BKN.out
          clear hd0_ hd1_ hf0_ hf1_ BN GN BKN
          generalize ((wM.setCell ⟨gn, 0, none⟩ (.int .i64 n1)).setCell ⟨gn, 1, none⟩ (.int .i64 n2)) = wZ at hX hXB ⊢
          have c0_ := Aside0.mk (blk_below BKB.out hXB)
          have c1_ := Aside0.mk (blk_below BKS.out hXB)
          have c2_ := Aside0.mk (blk_below BKX.out hXB)
          have c3_ := Aside0.mk (blk_below HG.out hXB)
          have c4_ := Aside0.mk (fc_below HM.out hXB)
          have c5_ := Aside0.mk (Kd.R_below HV.out hXB)
          have c6_ := Aside0.mk (below_step HB.out hXB)
          have c7_ := Aside0.mk (KT.out.then_ (Kept.of_below hXB (fun _ => False)) (fun _ h => h.elim))
          clear BKB BKS BKX HG HM HV HB KT
          have BKB := c0_
          have BKS := c1_
          have BKX := c2_
          have HG := c3_
          have HM := c4_
          have HV := c5_
          have HB := c6_
          have KT := c7_
          clear c0_ c1_ c2_ c3_ c4_ c5_ c6_ c7_
          have BKN := Aside0.mk hX
          clear hX hXB
          by_cases hux : u < x.f2
          · have H := HF'.out
            rw [if_pos (.inl hux)] at H
            have HF := Aside0.mk H
            have hud : decide (u < x.f2) = true := decide_eq_true hux
            clear H HF'
            have hx2_ : wZ.cell? ⟨gx, 2, none⟩ = some (.int .i64 x.f2) := (blk_cell BKX.out 2).trans rfl
            go_wp2
            go_region
            go_wp2
            go_roundg (l.length - (ii + 1))
            case measure => omega
            case rel => exact ⟨ii + 1, M1, C1, v1, by omega, by omega, by go_num, HF, BKB, BKS, HG, HM, HV, ⟨HB.out.drew⟩, KT, OB⟩
          · have H := HF'.out
            have hud : decide (u < x.f2) = false := decide_eq_false hux
            have A29 := Aside0.mk (show impl_playedRuns_longest.f n1 n2 = some (mx n1 n2) from rfl)
            generalize mx n1 n2 = t121 at A29 H
            have HF := Aside0.mk H
            clear H HF'
            go_wp2
            have eBKB : Aside0 (wZ.drew.heap[gb]? = some (.cells #[.int .i64 a, .int .i64 b] 56 (0, 0))) := ⟨BKB.out⟩
            have eBKS : Aside0 (wZ.drew.heap[gs]? = some (.cells #[.int .i64 a, .int .i64 b, .int .i64 u] 79 (0, 0))) := ⟨BKS.out⟩
            have eBKX : Aside0 (wZ.drew.heap[gx]? = some (.cells #[.string x.f0, .int .i64 x.f1, .int .i64 x.f2] 49 (0, 0))) := ⟨BKX.out⟩
            have eBKN : Aside0 (wZ.drew.heap[gn]? = some (.cells #[.int .i64 n1, .int .i64 n2] 56 (0, 0))) := ⟨BKN.out⟩
            have eHG : Aside0 (wZ.drew.heap[g]? = some (.cells #[.slice (some ad) l.length c0, .int .i64 m, .int .i64 bud, .map (some mb), v1] 53 (0, 0))) := ⟨HG.out⟩
            have eHM : Aside0 (fc_M wZ.drew mb M1) := ⟨HM.out⟩
            have eHV : Aside0 (Kd.R (Kd.int .i64) 2 wZ.drew w0.heap.size (fun _ => True) v1 C1) := ⟨HV.out⟩
            have eKT : Aside0 (Kept w wZ.drew (fcS g mb v)) := ⟨KT.out⟩
            have eHB : Aside0 (Below w0.heap.size w0 wZ.drew) := ⟨HB.out.drew⟩
            clear BKB BKS BKX BKN HG HM HV KT HB
            have BKB := eBKB
            have BKS := eBKS
            have BKX := eBKX
            have BKN := eBKN
            have HG := eHG
            have HM := eHM
            have HV := eHV
            have KT := eKT
            have HB := eHB
            clear eBKB eBKS eBKX eBKN eHG eHM eHV eKT eHB
            refine start_ (n := 13) (S := fun w' => w'.cell? ⟨gx, 2, none⟩ = some (.int .i64 x.f2) ∧ w'.cell? ⟨gn, 0, none⟩ = some (.int .i64 n1) ∧ w'.cell? ⟨gn, 1, none⟩ = some (.int .i64 n2) ∧ w'.cell? ⟨g, 1, none⟩ = some (.int .i64 m)) (ds := []) #[false, false, false, false, false, false, false, false, false, false, false, false, false] (by kernel_rfl) rfl rfl ⟨(blk_cell BKX.out 2).trans rfl, (blk_cell BKN.out 0).trans rfl, (blk_cell BKN.out 1).trans rfl, (blk_cell HG.out 1).trans rfl⟩ (fun hHeld => ?_); refine with_tabW fc_tab8 fc_bits8 (fun HT_ HW_ => ?_)
            generalize wZ.drew = wD at BKB BKS BKX BKN HG HM HV KT HB hHeld ⊢
            refine pure_ (i := 0) (N := some 39) (v := ?_) (a' := ?_) #[true, false, false, false, false, false, false, false, false, false, false, false, false] rfl rfl (any_of HT_.out (by kernel_rfl)) (fun _ _ _ h => h) (Or.inl ⟨by rfl, ?_⟩) ?_ ?_
            rotate_left
            · intro w'
              go_simp
              with_reducible rfl
            rotate_left
            · simp only [Act.put, List.setIfInBounds_toArray, List.set_cons_zero, List.set_cons_succ, i64_w, i32_w]
              rfl
            refine pure_ (i := 2) (N := some 41) (v := ?_) (a' := ?_) #[true, false, true, false, false, false, false, false, false, false, false, false, false] rfl rfl (any_of HT_.out (by kernel_rfl)) (fun _ _ _ h => h) (Or.inl ⟨by rfl, ?_⟩) ?_ ?_
            rotate_left
            · intro w'
              go_simp
              with_reducible rfl
            rotate_left
            · simp only [Act.put, List.setIfInBounds_toArray, List.set_cons_zero, List.set_cons_succ, i64_w, i32_w]
              rfl
            refine take_ (i := 1) (N := some 40) (v := ?_) (a' := ?_) #[true, true, true, false, false, false, false, false, false, false, false, false, false] rfl rfl (take_ofW HT_.out HW_.out (by kernel_rfl)) (fun _ _ _ h => h) (Or.inl ⟨by rfl, ?_⟩) hHeld ?_ ?_
            rotate_left
            · rintro w' ⟨s0, s1, s2, s3⟩
              go_simp
              with_reducible rfl
            rotate_left
            · simp only [Act.put, List.setIfInBounds_toArray, List.set_cons_zero, List.set_cons_succ, i64_w, i32_w]
              rfl
            refine pure_ (i := 3) (N := some 42) (v := ?_) (a' := ?_) #[true, true, true, true, false, false, false, false, false, false, false, false, false] rfl rfl (any_of HT_.out (by kernel_rfl)) (fun _ _ _ h => h) (Or.inl ⟨by rfl, ?_⟩) ?_ ?_
            rotate_left
            · intro w'
              go_simp
              with_reducible rfl
            rotate_left
            · simp only [Act.put, List.setIfInBounds_toArray, List.set_cons_zero, List.set_cons_succ, i64_w, i32_w]
              rfl
            refine pure_ (i := 4) (N := some 43) (v := ?_) (a' := ?_) #[true, true, true, true, true, false, false, false, false, false, false, false, false] rfl rfl (any_of HT_.out (by kernel_rfl)) (fun _ _ _ h => h) (Or.inl ⟨by rfl, ?_⟩) ?_ ?_
            rotate_left
            · intro w'
              go_simp
              with_reducible rfl
            rotate_left
            · simp only [Act.put, List.setIfInBounds_toArray, List.set_cons_zero, List.set_cons_succ, i64_w, i32_w]
              rfl
            refine pure_ (i := 7) (N := some 46) (v := ?_) (a' := ?_) #[true, true, true, true, true, false, false, true, false, false, false, false, false] rfl rfl (any_of HT_.out (by kernel_rfl)) (fun _ _ _ h => h) (Or.inl ⟨by rfl, ?_⟩) ?_ ?_
            rotate_left
            · intro w'
              go_simp
              with_reducible rfl
            rotate_left
            · simp only [Act.put, List.setIfInBounds_toArray, List.set_cons_zero, List.set_cons_succ, i64_w, i32_w]
              rfl
            refine pure_ (i := 8) (N := some 47) (v := ?_) (a' := ?_) #[true, true, true, true, true, false, false, true, true, false, false, false, false] rfl rfl (any_of HT_.out (by kernel_rfl)) (fun _ _ _ h => h) (Or.inl ⟨by rfl, ?_⟩) ?_ ?_
            rotate_left
            · intro w'
              go_simp
              with_reducible rfl
            rotate_left
            · simp only [Act.put, List.setIfInBounds_toArray, List.set_cons_zero, List.set_cons_succ, i64_w, i32_w]
              rfl
            refine pure_ (i := 9) (N := some 48) (v := ?_) (a' := ?_) #[true, true, true, true, true, false, false, true, true, true, false, false, false] rfl rfl (any_of HT_.out (by kernel_rfl)) (fun _ _ _ h => h) (Or.inl ⟨by rfl, ?_⟩) ?_ ?_
            rotate_left
            · intro w'
              go_simp
              with_reducible rfl
            rotate_left
            · simp only [Act.put, List.setIfInBounds_toArray, List.set_cons_zero, List.set_cons_succ, i64_w, i32_w]
              rfl
            refine take_ (i := 5) (N := some 44) (v := ?_) (a' := ?_) #[true, true, true, true, true, true, false, true, true, true, false, false, false] rfl rfl (take_ofW HT_.out HW_.out (by kernel_rfl)) (fun _ _ _ h => h) (Or.inl ⟨by rfl, ?_⟩) hHeld ?_ ?_
            rotate_left
            · rintro w' ⟨s0, s1, s2, s3⟩
              go_simp
              with_reducible rfl
            rotate_left
            · simp only [Act.put, List.setIfInBounds_toArray, List.set_cons_zero, List.set_cons_succ, i64_w, i32_w]
              rfl
            refine take_ (i := 10) (N := some 49) (v := ?_) (a' := ?_) #[true, true, true, true, true, true, false, true, true, true, true, false, false] rfl rfl (take_ofW HT_.out HW_.out (by kernel_rfl)) (fun _ _ _ h => h) (Or.inl ⟨by rfl, ?_⟩) hHeld ?_ ?_
            rotate_left
            · rintro w' ⟨s0, s1, s2, s3⟩
              go_simp
              with_reducible rfl
            rotate_left
            · simp only [Act.put, List.setIfInBounds_toArray, List.set_cons_zero, List.set_cons_succ, i64_w, i32_w]
              rfl
            refine one_ (i := 6) (N := some 45) #[true, true, true, true, true, true, true, true, true, true, true, false, false] rfl rfl (one_of HT_.out (by kernel_rfl)) (by decide) (fun K hK => ?_)
            refine goes_ Try.func40 (by kernel_rfl) rfl #[.agg #[.int .i64 n1, .int .i64 n2]] (by rfl) rfl rfl (by (try simp only [List.map_toArray, List.map_cons, List.map_nil]); first | done | rfl) ?_
            with_reducible refine (impl_playedRuns_longest.calls n1 n2 t121 _ A29.out).mono ?_
            rintro e wL ⟨rfl, hb_⟩
            refine ⟨_, rfl, ?_⟩
            have c0_ := Aside0.mk (blk_below BKB.out hb_)
            have c1_ := Aside0.mk (blk_below BKS.out hb_)
            have c2_ := Aside0.mk (blk_below BKX.out hb_)
            have c3_ := Aside0.mk (blk_below BKN.out hb_)
            have c4_ := Aside0.mk (blk_below HG.out hb_)
            have c5_ := Aside0.mk (fc_below HM.out hb_)
            have c6_ := Aside0.mk (Kd.R_below HV.out hb_)
            have c7_ := Aside0.mk (below_step HB.out hb_)
            have c8_ := Aside0.mk (KT.out.then_ (Kept.of_below hb_ (fun _ => False)) (fun _ h => h.elim))
            clear BKB BKS BKX BKN HG HM HV HB KT
            have BKB := c0_
            have BKS := c1_
            have BKX := c2_
            have BKN := c3_
            have HG := c4_
            have HM := c5_
            have HV := c6_
            have HB := c7_
            have KT := c8_
            clear c0_ c1_ c2_ c3_ c4_ c5_ c6_ c7_ c8_
            clear hb_
            refine hK.out _ _ ⟨(blk_cell BKX.out 2).trans rfl, (blk_cell BKN.out 0).trans rfl, (blk_cell BKN.out 1).trans rfl, (blk_cell HG.out 1).trans rfl⟩ (fun hHeld => ?_)
            clear hK K
            refine norm_ (a' := ?_) ?_ ?_
            rotate_left
            · show Act.put _ (some 45) _ = _
              simp only [Act.put, List.setIfInBounds_toArray, List.set_cons_zero, List.set_cons_succ, i64_w, i32_w]
              rfl
            refine pure_ (i := 11) (N := some 50) (v := ?_) (a' := ?_) #[true, true, true, true, true, true, true, true, true, true, true, true, false] rfl rfl (any_of HT_.out (by kernel_rfl)) (fun _ _ _ h => h) (Or.inl ⟨by rfl, ?_⟩) ?_ ?_
            rotate_left
            · intro w'
              go_simp
              with_reducible rfl
            rotate_left
            · simp only [Act.put, List.setIfInBounds_toArray, List.set_cons_zero, List.set_cons_succ, i64_w, i32_w]
              rfl
            refine pure_ (i := 12) (N := some 51) (v := ?_) (a' := ?_) #[true, true, true, true, true, true, true, true, true, true, true, true, true] rfl rfl (any_of HT_.out (by kernel_rfl)) (fun _ _ _ h => h) (Or.inl ⟨by rfl, ?_⟩) ?_ ?_
            rotate_left
            · intro w'
              go_simp
              with_reducible rfl
            rotate_left
            · simp only [Act.put, List.setIfInBounds_toArray, List.set_cons_zero, List.set_cons_succ, i64_w, i32_w]
              rfl
            refine done_ (done_of HT_.out (by kernel_rfl)) ?_
            by_cases hq : m < t121
            · have H := HF.out
              rw [if_pos (.inr hq)] at H
              have HF' := Aside0.mk H
              have hqd : decide (t121 > m) = true := decide_eq_true hq
              (first | rw [hqd] | skip)
              clear H HF
              go_wp2
              go_roundg (l.length - (ii + 1))
              case measure => omega
              case rel => exact ⟨ii + 1, M1, C1, v1, by omega, by omega, by go_num, HF', BKB, BKS, HG, HM, HV, HB, KT, OB⟩
            · have H := HF.out
              rw [if_neg (by omega)] at H
              have hqd : decide (t121 > m) = false := decide_eq_false hq
              (first | rw [hqd] | skip)
              clear hq HF
              by_cases hcl : C1.length < 1000000
              · rw [if_pos hcl] at H
                obtain ⟨⟨r1, M2, C2⟩, hrec, H⟩ := Option.bind_eq_some_iff.mp H
                have REC := Aside0.mk hrec
                have HF := Aside0.mk H
                clear hrec H
                obtain ⟨A1, c1, ev1⟩ := Kd.R_slice HV.out
                subst ev1
                have hcz : wL.cell? ⟨g, 4, none⟩ = some (.slice A1 C1.length c1) := (blk_cell HG.out 4).trans rfl
                have hfz := blk_frozen HG.out 4
                have hcA : ∀ o : Obj, (wL.alloc o).cell? ⟨g, 4, none⟩ = some (.slice A1 C1.length c1) := fun o => (blk_cell (blk_alloc HG.out o) 4).trans rfl
                go_upto_region 10 with (first | (go_loud ((with_reducible refine gate_builtin (b := .append) (xs := #[.tmp 56, .tmp 58]) rfl ?_); at_builtin; refine Kd.R_append (Kd.int .i64) (w0 := w0) w0.heap.size rfl (.tmp 56) (.tmp 58) 34 2 (.int .i64 0) 8 rfl Try.underlying34 fc_info2 rfl (by decide) (by omega) (.slice A1 C1.length c1) C1 (ii : Int) [.int .i64 (ii : Int)] (fun _ => True) (fun _ => False) rfl rfl ?aP (fun _ hk => hk.elim) ?aF ?aO ?aB ?aS ?aL ?_; (case aP => exact rfl); (case aB => exact HB.out); (case aF => exact (fun _ _ => trivial)); (case aO => exact HV.out); (case aS => exact HB.out.size); (case aL => omega); intro v2 w2 ho hb hg hat; obtain ⟨A2, c2, e2_⟩ := Kd.R_slice ho; rw [List.length_append, List.length_singleton] at e2_; subst e2_; have AO := Aside0.mk ho; have AB := Aside0.mk hb; have AG := Aside0.mk hg; have AT := Aside0.mk hat; have hcz2 : w2.cell? ⟨g, 4, none⟩ = some (.slice A1 C1.length c1) := (blk_cell (blk_grown HG.out hg (Kd.R_ne HV.out HG.out (by decide))) 4).trans rfl; have hfz2 := blk_frozen (blk_grown HG.out hg (Kd.R_ne HV.out HG.out (by decide))) 4; clear ho hb hg hat)) | fail)
                obtain ⟨F1, F2, F3, F4⟩ := fc_push HG.out HM.out HV.out AG.out AO.out
                have F5 : Below w0.heap.size w0 (w2.setCell ⟨g, 4, none⟩ (.slice A2 (C1.length + 1) c2)) := below_set AB.out hgw
                generalize (w2.setCell ⟨g, 4, none⟩ (.slice A2 (C1.length + 1) c2)) = wF at F1 F2 F3 F4 F5 ⊢
                have d0_ := Aside0.mk (fc_stays F4 HG.out HM.out HV.out BKB.out (by decide) (by decide))
                have d1_ := Aside0.mk (fc_stays F4 HG.out HM.out HV.out BKS.out (by decide) (by decide))
                have d2_ := Aside0.mk (fc_stays F4 HG.out HM.out HV.out BKX.out (by decide) (by decide))
                have d3_ := Aside0.mk (fc_stays F4 HG.out HM.out HV.out BKN.out (by decide) (by decide))
                have d4_ := Aside0.mk (KT.out.then_ F4 (fc_sub OB.out))
                have d5_ := Aside0.mk (fc_ob OB.out KT.out.1 AT.out)
                clear BKB BKS BKX BKN HG HM HV HB KT OB AO AB AG AT hcz hfz hcA hcz2 hfz2 F4
                have BKB := d0_
                have BKS := d1_
                have BKX := d2_
                have BKN := d3_
                have KT := d4_
                have OB := d5_
                clear d0_ d1_ d2_ d3_ d4_ d5_
                have HG := Aside0.mk F1
                have HM := Aside0.mk F2
                have HV := Aside0.mk F3
                have HB := Aside0.mk F5
                clear F1 F2 F3 F5
                generalize hv2 : Value.slice A2 (C1.length + 1) c2 = v2 at HG HV OB
                have hn0 : wF.cell? ⟨gn, 0, none⟩ = some (.int .i64 n1) := (blk_cell BKN.out 0).trans rfl
                have hn1 : wF.cell? ⟨gn, 1, none⟩ = some (.int .i64 n2) := (blk_cell BKN.out 1).trans rfl
                have hx2_ : wF.cell? ⟨gx, 2, none⟩ = some (.int .i64 x.f2) := (blk_cell BKX.out 2).trans rfl
                go_wp2_with (fail)
                refine (IH.out g mb c0 (some ad) l m bud M1 (C1 ++ [(ii : Int)]) v2 n1 n2 (wrap64 (u - x.f2)) r1 M2 C2 w0 wF HG.out hgw hmw HM.out HV.out HL.out hlc HB.out ⟨NW.out.1, NW.out.2, wrap64_wf _⟩ REC.out).mono ?_
                rintro e wR ⟨rfl, v3, G1, G2, G3, G4, G5, G6⟩
                replace G1 : wR.heap[g]? = some (.cells #[.slice (some ad) l.length c0, .int .i64 m, .int .i64 bud, .map (some mb), v3] 53 (0, 0)) := G1
                have d0_ := Aside0.mk (fc_stays G5 HG.out HM.out HV.out BKB.out (by decide) (by decide))
                have d1_ := Aside0.mk (fc_stays G5 HG.out HM.out HV.out BKS.out (by decide) (by decide))
                have d2_ := Aside0.mk (KT.out.then_ G5 (fc_sub OB.out))
                have d3_ := Aside0.mk (fc_ob OB.out KT.out.1 G6)
                clear BKB BKS BKX BKN HG HM HV HB KT OB hn0 hn1 hx2_ G5 G6
                have BKB := d0_
                have BKS := d1_
                have KT := d2_
                have OB := d3_
                clear d0_ d1_ d2_ d3_
                have HG := Aside0.mk G1
                have HM := Aside0.mk G2
                have HV := Aside0.mk G3
                have HB := Aside0.mk G4
                clear G1 G2 G3 G4
                dsimp only
                cases r1 with
                | true =>
                  have H := HF.out
                  rw [if_pos rfl] at H
                  simp only [Option.some.injEq, Prod.mk.injEq] at H
                  obtain ⟨rfl, rfl, rfl⟩ := H
                  go_wp2_with (fail)
                  go_ret
                  exact ⟨rfl, v3, HG.out, HM.out, HV.out, HB.out, KT.out, OB.out⟩
                | false =>
                  have H := HF.out
                  rw [if_neg (by simp)] at H
                  by_cases hc2 : 0 < C2.length
                  · rw [if_pos hc2] at H
                    have HF' := Aside0.mk H
                    clear H HF
                    obtain ⟨A3, c3, e3⟩ := Kd.R_slice HV.out
                    subst e3
                    obtain ⟨_, hcap, _⟩ := Kd.R_reads' HV.out
                    have hcz : wR.cell? ⟨g, 4, none⟩ = some (.slice A3 C2.length c3) := (blk_cell HG.out 4).trans rfl
                    have hfz := blk_frozen HG.out 4
                    have hb2 : C2.length ≤ 9223372036854775807 := (Kd.R_reads' HV.out).2.2.2.1
                    go_wp2
                    go_region
                    obtain ⟨F1, F2, F3, F4⟩ := fc_cut (v1 := .slice A3 (C2.length - 1) c3) (C1 := C2.take (C2.length - 1)) HG.out HM.out (Kd.R_take HV.out (Nat.sub_le _ _))
                    have F5 : Below w0.heap.size w0 (wR.setCell ⟨g, 4, none⟩ (.slice A3 (C2.length - 1) c3)) := below_set HB.out hgw
                    have e1 := blk_far BKB.out (p := ⟨g, 4, none⟩) (blk_ne BKB.out HG.out (by decide)) (.slice A3 (C2.length - 1) c3)
                    have e2 := blk_far BKS.out (p := ⟨g, 4, none⟩) (blk_ne BKS.out HG.out (by decide)) (.slice A3 (C2.length - 1) c3)
                    have e3 := KT.out.then_ F4 (fun k hk => .inl (.inl hk))
                    have e4 := OB.out
                    rw [fc_own A3 C2.length (C2.length - 1) c3] at e4
                    generalize (wR.setCell ⟨g, 4, none⟩ (.slice A3 (C2.length - 1) c3)) = wC at F1 F2 F3 F4 F5 e1 e2 e3 ⊢
                    go_wp2
                    go_roundg (l.length - (ii + 1))
                    case measure => omega
                    case rel => exact ⟨ii + 1, M2, C2.take (C2.length - 1), _, by omega, by omega, by go_num, HF', ⟨e1⟩, ⟨e2⟩, ⟨F1⟩, ⟨F2⟩, ⟨F3⟩, ⟨F5.drew⟩, ⟨e3⟩, ⟨e4⟩⟩
                  · rw [if_neg hc2] at H
                    exact absurd H (by simp)
              · rw [if_neg hcl] at H
                exact absurd H (by simp)
        · have hjj : ii = l.length := by omega
          subst hjj
          have hF : decide ((l.length : Int) < (l.length : Int)) = false := decide_eq_false (by omega)
          have H := HF.out
          rw [List.drop_length] at H
          unfold fc_loop at H
          by_cases hMl : M1.length < 1000000
          · rw [if_pos hMl] at H
            simp only [Option.some.injEq, Prod.mk.injEq] at H
            obtain ⟨rfl, rfl, rfl⟩ := H
            obtain ⟨wU, hrun, U1, U2⟩ := fc_upd HM.out (a, b, u) HWF.out hMl
            obtain ⟨wV, hrunV, V1, V2⟩ := fc_upd (w := wr.drew) (fc_same HM.out rfl) (a, b, u) HWF.out hMl
            unfold fc_kv at hrun hrunV
            dsimp only at hrun hrunV
            have hcm : wr.cell? ⟨g, 3, none⟩ = some (.map (some mb)) := (blk_cell HG.out 3).trans rfl
            have hc0 : wr.cell? ⟨gs, 0, none⟩ = some (.int .i64 a) := (blk_cell BKS.out 0).trans rfl
            have hc1 : wr.cell? ⟨gs, 1, none⟩ = some (.int .i64 b) := (blk_cell BKS.out 1).trans rfl
            have hc2 : wr.cell? ⟨gs, 2, none⟩ = some (.int .i64 u) := (blk_cell BKS.out 2).trans rfl
            have UU := Aside0.mk U1
            have UG := Aside0.mk U2
            have VV := Aside0.mk V1
            have VG := Aside0.mk V2
            clear U1 U2 V1 V2
            go_wp2
            go_region
            go_wp2
            go_ret
            exact ⟨rfl, v1, blk_grown (w := wr.drew) HG.out VG.out (fun e => fc_typed HM.out HG.out (Option.some.inj e)), VV.out, Kd.R_mono (Kd.R_grown (w := wr.drew) (Kd.R_bound HV.out) VG.out (fun k hk e => by
              obtain ⟨_, _, _, q, _, cells, hc⟩ := hk
              exact fc_typed HM.out hc (Option.some.inj e))) (fun _ _ => trivial), HB.out.drew.grown VG.out HB.out.size (fun j hj => by cases hj; exact hmw), KT.out.of_grown VG.out (fun q hq => .inl (.inr (.inl (Option.some.inj hq).symm))), OB.out⟩
          · rw [if_neg hMl] at H
            exact absurd H (by simp)
def impl_FirstComposed.f (k : Nat) (l0 : List S49) (a1 a2 : Int) : Option (List Int × Int) := (impl_ValidSyllables.f k l0).bind fun v => if v = true then (if (0 ≤ a1 ∧ a1 ≤ 64) then (if (1 ≤ a2 ∧ a2 ≤ 64) then (fc_f k l0 a2 [] [] 0 0 a1).bind fun s => if s.1 = true then some (s.2.2, 0) else some ([], 3) else some ([], 2)) else some ([], 2)) else some ([], 1)
theorem impl_FirstComposed.mono : ∀ a0 a1 a2 k, LeO (impl_FirstComposed.f k a0 a1 a2) (impl_FirstComposed.f (k + 1) a0 a1 a2) := by
  intro a0 a1 a2 k
  unfold impl_FirstComposed.f
  refine LeO.bind (impl_ValidSyllables.mono _ _) (fun _ => LeO.ite (LeO.ite (LeO.ite ?_ (LeO.refl _)) (LeO.refl _)) (LeO.refl _))
  exact LeO.bind (fc_f.mono _ _ _ _ _ _ _ _) (fun _ => LeO.refl _)
theorem fc_within (a b c : Int) (r : Bool) (h : decide (b ≤ a ∧ a ≤ c) = r) : impl_within.f a b c = some r := by
  subst h
  unfold impl_within.f
  split
  · rename_i h
    congr 1
    rw [decide_eq_decide]
    omega
  · rename_i h
    rw [decide_eq_false (by omega)]
theorem fc_wf0 : (Lit.int .i64 0).wf = true := rfl
theorem fc_made (w : World) : fc_M (w.alloc (.map #[] 0)) w.heap.size [] := ⟨.map [], World.ownsMap_made w _ _ _, Go.Maps.isMap_empty, fun t kl _ _ => by rw [Go.WideAt.atKey_none _ (by simp)]; simp⟩
set_option maxHeartbeats 8000000 in
set_option maxRecDepth 100000 in
theorem impl_FirstComposed.calls (k : Nat) (A0 : Option Addr) (c0 : Nat) (l0 : List S49) (a1 a2 : Int) (r1 : List Int) (r2 : Int) (w : World) (hr0 : Kd.C k49 w A0 l0.length l0) (hc0 : l0.length ≤ c0) (h : impl_FirstComposed.f k l0 a1 a2 = some (r1, r2)) :
    Calls Try.prog 12 #[.slice A0 l0.length c0, .int .i64 a1, .int .i64 a2] w fun e w' => ∃ v0_ : Value, e = .returned (.tuple #[v0_, .int .i64 r2]) ∧ Kd.R (Kd.int .i64) 2 w' w.heap.size (fun _ => True) v0_ r1 ∧ Below w.heap.size w w' := by
  have HR0 := Aside0.mk hr0
  have HC0 := Aside0.mk hc0
  clear hr0 hc0
  unfold impl_FirstComposed.f at h
  obtain ⟨v, hv, H⟩ := Option.bind_eq_some_iff.mp h
  clear h
  have V0 := Aside0.mk hv
  clear hv
  cases v with
  | false =>
    rw [if_neg (by simp)] at H
    simp only [Option.some.injEq, Prod.mk.injEq] at H
    obtain ⟨rfl, rfl⟩ := H
    go_enter Try.func12, Try.ntmps12
    go_wp2_with (fail)
    refine (impl_ValidSyllables.calls k A0 c0 l0 false _ (Kd.C_below HR0.out (Below.refl w.heap.size w)) HC0.out V0.out).mono ?_
    rintro e w2 ⟨rfl, hb_⟩
    have HB2 : Aside0 (Below w.heap.size w w2) := ⟨below_then (Below.refl w.heap.size w) ((Below.refl w.heap.size w)).size hb_⟩
    clear hb_
    dsimp only
    go_wp2_with (fail)
    go_ret2
    refine ⟨_, rfl, Kd.R_nil _ _ _ _ _, by repeat (first | exact HB2.out | apply pw_below_drewN | apply below_drew1)⟩
  | true =>
    rw [if_pos rfl] at H
    by_cases m1 : 0 ≤ a1 ∧ a1 ≤ 64
    · rw [if_pos m1] at H
      have C1 := Aside0.mk (fc_within a1 0 64 true (decide_eq_true m1))
      by_cases m2 : 1 ≤ a2 ∧ a2 ≤ 64
      · rw [if_pos m2] at H
        have C2 := Aside0.mk (fc_within a2 1 64 true (decide_eq_true m2))
        obtain ⟨⟨s1, s2, s3⟩, hs, H⟩ := Option.bind_eq_some_iff.mp H
        have CT := Aside0.mk hs
        clear hs
        dsimp only at H
        have hmm := @run_makeMap Try.prog
        go_enter Try.func12, Try.ntmps12
        go_wp2_with (fail)
        refine (impl_ValidSyllables.calls k A0 c0 l0 true _ (Kd.C_below HR0.out (Below.refl w.heap.size w)) HC0.out V0.out).mono ?_
        rintro e w2 ⟨rfl, hb_⟩
        have HB2 : Aside0 (Below w.heap.size w w2) := ⟨below_then (Below.refl w.heap.size w) ((Below.refl w.heap.size w)).size hb_⟩
        clear hb_
        dsimp only
        go_wp2_with (fail)
        refine (impl_within.calls a1 0 64 true _ C1.out).mono ?_
        rintro e w3 ⟨rfl, ⟨nd3, rfl⟩⟩
        dsimp only
        go_wp2_with (fail)
        refine (impl_within.calls a2 1 64 true _ C2.out).mono ?_
        rintro e w4 ⟨rfl, ⟨nd4, rfl⟩⟩
        dsimp only
        have HB4 : Aside0 (Below w.heap.size w ((w2.drewN nd3).drewN nd4)) := ⟨by repeat (first | exact HB2.out | apply pw_below_drewN | apply below_drew1)⟩
        go_upto_region 6 with (first | ((with_reducible refine gate_dst (N := 8) rfl ?_); refine box_event ?hg (N := 8) ?hd (cs := #[.slice none 0 0, .int .i64 0, .int .i64 0, .map none, .slice none 0 0]) (t := 53) ?hr ?_; (case hd => rfl); (case hg => rfl); (case hr => first | (go_simp; done) | (go_simp; rfl)); intro gb hg wB hbox hb; have BB := Aside0.mk hb; have GB := Aside0.mk hg; have BK := Aside0.mk hbox; clear hb hg hbox; have hc0_ : wB.cell? ⟨gb, 0, none⟩ = some (.slice none 0 0) := (blk_cell BK.out 0).trans rfl; have hc1_ : wB.cell? ⟨gb, 1, none⟩ = some (.int .i64 0) := (blk_cell BK.out 1).trans rfl; have hc2_ : wB.cell? ⟨gb, 2, none⟩ = some (.int .i64 0) := (blk_cell BK.out 2).trans rfl; have hc3_ : wB.cell? ⟨gb, 3, none⟩ = some (.map none) := (blk_cell BK.out 3).trans rfl; have hc4_ : wB.cell? ⟨gb, 4, none⟩ = some (.slice none 0 0) := (blk_cell BK.out 4).trans rfl; have hf0_ := blk_frozen BK.out 0; have hf1_ := blk_frozen BK.out 1; have hf2_ := blk_frozen BK.out 2; have hf3_ := blk_frozen BK.out 3; have hf4_ := blk_frozen BK.out 4) | fail)
        have hMade : fc_M ((w2.drewN (nd3 + nd4)).alloc (Obj.map #[] 0)) w2.heap.size [] := fc_made (w2.drewN (nd3 + nd4))
        have hBA : Below w.heap.size w ((w2.drewN (nd3 + nd4)).alloc (Obj.map #[] 0)) := below_alloc (pw_below_drewN HB2.out _) _
        have hge := GB.out
        have hsz : ((w2.drewN (nd3 + nd4)).alloc (Obj.map #[] 0)).heap.size = w2.heap.size + 1 := by simp [World.alloc, World.drewN]
        have hw2 := HB2.out.size
        have hX : (((((wB.setCell ⟨gb, 0, none⟩ (.slice A0 l0.length c0)).setCell ⟨gb, 1, none⟩ (.int .i64 a2)).setCell ⟨gb, 2, none⟩ (.int .i64 0)).setCell ⟨gb, 3, none⟩ (.map (some w2.heap.size))).setCell ⟨gb, 4, none⟩ (.slice none 0 0)).heap[gb]? = some (.cells #[.slice A0 l0.length c0, .int .i64 a2, .int .i64 0, .map (some w2.heap.size), .slice none 0 0] 53 (0, 0)) := by
          refine blk_put (cs := #[.slice A0 l0.length c0, .int .i64 a2, .int .i64 0, .map (some w2.heap.size), .slice none 0 0]) ?_ 4 _ rfl
          refine blk_put (cs := #[.slice A0 l0.length c0, .int .i64 a2, .int .i64 0, .map none, .slice none 0 0]) ?_ 3 _ rfl
          refine blk_put (cs := #[.slice A0 l0.length c0, .int .i64 a2, .int .i64 0, .map none, .slice none 0 0]) ?_ 2 _ rfl
          refine blk_put (cs := #[.slice A0 l0.length c0, .int .i64 0, .int .i64 0, .map none, .slice none 0 0]) ?_ 1 _ rfl
          refine blk_put (cs := #[.slice none 0 0, .int .i64 0, .int .i64 0, .map none, .slice none 0 0]) ?_ 0 _ rfl
          exact BK.out
        have hBX : Below ((w2.drewN (nd3 + nd4)).alloc (Obj.map #[] 0)).heap.size ((w2.drewN (nd3 + nd4)).alloc (Obj.map #[] 0)) (((((wB.setCell ⟨gb, 0, none⟩ (.slice A0 l0.length c0)).setCell ⟨gb, 1, none⟩ (.int .i64 a2)).setCell ⟨gb, 2, none⟩ (.int .i64 0)).setCell ⟨gb, 3, none⟩ (.map (some w2.heap.size))).setCell ⟨gb, 4, none⟩ (.slice none 0 0)) := below_set (below_set (below_set (below_set (below_set BB.out (Nat.le_of_eq hge.symm)) (Nat.le_of_eq hge.symm)) (Nat.le_of_eq hge.symm)) (Nat.le_of_eq hge.symm)) (Nat.le_of_eq hge.symm)
        clear BK BB GB hc0_ hc1_ hc2_ hc3_ hc4_ hf0_ hf1_ hf2_ hf3_ hf4_ hmm
        generalize (((((wB.setCell ⟨gb, 0, none⟩ (.slice A0 l0.length c0)).setCell ⟨gb, 1, none⟩ (.int .i64 a2)).setCell ⟨gb, 2, none⟩ (.int .i64 0)).setCell ⟨gb, 3, none⟩ (.map (some w2.heap.size))).setCell ⟨gb, 4, none⟩ (.slice none 0 0)) = wX at hX hBX ⊢
        have HG := Aside0.mk hX
        have HM := Aside0.mk (fc_below hMade hBX)
        have HB := Aside0.mk (below_step hBA hBX)
        rw [hsz] at hge
        have hgw : w.heap.size ≤ gb := by omega
        clear hMade hBA hBX hX hsz HB2 HB4 hge
        go_wp2_with (fail)
        have hwf : fc_wf (0, 0, a1) := ⟨fc_wf0, fc_wf0, show (Lit.int .i64 a1).wf = true from WalkArith.wf_i64 (by omega)⟩
        have hcall := fc_calls k gb w2.heap.size c0 A0 l0 a2 0 [] [] (.slice none 0 0) 0 0 a1 s1 s2 s3 w wX HG.out hgw hw2 HM.out (Kd.R_nil _ _ _ _ _) HR0.out HC0.out HB.out hwf CT.out
        refine hcall.mono ?_
        rintro e w7 ⟨rfl, v3, G1, G2, G3, G4, _, _⟩
        obtain ⟨A3, c3, ev⟩ := Kd.R_slice G3
        subst ev
        have hcz : w7.cell? ⟨gb, 4, none⟩ = some (.slice A3 s3.length c3) := (blk_cell G1 4).trans rfl
        have R3 := Aside0.mk G3
        have B3 := Aside0.mk G4
        clear G1 G2 G3 G4
        dsimp only
        cases s1 with
        | true =>
          rw [if_pos rfl] at H
          simp only [Option.some.injEq, Prod.mk.injEq] at H
          obtain ⟨rfl, rfl⟩ := H
          go_wp2_with (fail)
          go_ret2
          exact ⟨_, rfl, R3.out, B3.out⟩
        | false =>
          rw [if_neg (by simp)] at H
          simp only [Option.some.injEq, Prod.mk.injEq] at H
          obtain ⟨rfl, rfl⟩ := H
          go_wp2_with (fail)
          go_ret2
          exact ⟨_, rfl, Kd.R_nil _ _ _ _ _, B3.out⟩
      · rw [if_neg m2] at H
        have C2 := Aside0.mk (fc_within a2 1 64 false (decide_eq_false m2))
        simp only [Option.some.injEq, Prod.mk.injEq] at H
        obtain ⟨rfl, rfl⟩ := H
        go_enter Try.func12, Try.ntmps12
        go_wp2_with (fail)
        refine (impl_ValidSyllables.calls k A0 c0 l0 true _ (Kd.C_below HR0.out (Below.refl w.heap.size w)) HC0.out V0.out).mono ?_
        rintro e w2 ⟨rfl, hb_⟩
        have HB2 : Aside0 (Below w.heap.size w w2) := ⟨below_then (Below.refl w.heap.size w) ((Below.refl w.heap.size w)).size hb_⟩
        clear hb_
        dsimp only
        go_wp2_with (fail)
        refine (impl_within.calls a1 0 64 true _ C1.out).mono ?_
        rintro e w3 ⟨rfl, ⟨nd3, rfl⟩⟩
        dsimp only
        go_wp2_with (fail)
        refine (impl_within.calls a2 1 64 false _ C2.out).mono ?_
        rintro e w4 ⟨rfl, ⟨nd4, rfl⟩⟩
        dsimp only
        go_wp2_with (fail)
        go_ret2
        refine ⟨_, rfl, Kd.R_nil _ _ _ _ _, by repeat (first | exact HB2.out | apply pw_below_drewN | apply below_drew1)⟩
    · rw [if_neg m1] at H
      have C1 := Aside0.mk (fc_within a1 0 64 false (decide_eq_false m1))
      simp only [Option.some.injEq, Prod.mk.injEq] at H
      obtain ⟨rfl, rfl⟩ := H
      go_enter Try.func12, Try.ntmps12
      go_wp2_with (fail)
      refine (impl_ValidSyllables.calls k A0 c0 l0 true _ (Kd.C_below HR0.out (Below.refl w.heap.size w)) HC0.out V0.out).mono ?_
      rintro e w2 ⟨rfl, hb_⟩
      have HB2 : Aside0 (Below w.heap.size w w2) := ⟨below_then (Below.refl w.heap.size w) ((Below.refl w.heap.size w)).size hb_⟩
      clear hb_
      dsimp only
      go_wp2_with (fail)
      refine (impl_within.calls a1 0 64 false _ C1.out).mono ?_
      rintro e w3 ⟨rfl, ⟨nd3, rfl⟩⟩
      dsimp only
      go_wp2_with (fail)
      go_ret2
      refine ⟨_, rfl, Kd.R_nil _ _ _ _ _, by repeat (first | exact HB2.out | apply pw_below_drewN | apply below_drew1)⟩

end Go.Proofs.Ytlcciappjbppfaa.PFnComposed
