-- written by xprint.py, a program of this repo over the kit's print; not trusted: Lean checks it
import Derived.Test.YtidbcglhpaamdaaPFnVariantsx0
import Derived.Test.YtidbcglhpaamdaaPFnVariantsx3
import Derived.Test.YtidbcglhpaamdaaPFnVariantsx5
import Derived.Test.YtidbcglhpaamdaaPFnVariantsx6
namespace Go.Proofs.Ytidbcglhpaamdaa.PFnVariants
open Go.RowKit Go.Proofs.YtidbcglhpaamdaaW.PrintWords Go.Proofs.YtidbcglhpaamdaaW.PrintLast Go.Proofs.YtidbcglhpaamdaaW.PrintMore
attribute [local go_sem] max2_int min2_int max_two min_two max_three min_three max_four min_four   -- for this text's walks alone
set_option linter.unusedVariables false
set_option linter.unusedSimpArgs false

/-! ### impl_choicesOf: function 27, by hand -/
theorem ch_at {w : World} {A : Option Addr} {n : Nat} {xs : List (List Int)} (h : Kd.C (Kd.slice 2 (Kd.int .i64)) w A n xs) (i : Nat) (h1 : i < n) : ∃ ad A0 c0, A = some ad ∧ w.cell? (ad.add i) = some (.slice A0 (xs.getD i []).length c0) ∧ (xs.getD i []).length ≤ c0 ∧ (Kd.int .i64).C w A0 (xs.getD i []).length (xs.getD i []) := by
  obtain ⟨ad, c, e, _, hK, hc0⟩ := Kd.C_get h ([] : List Int) (i : Int) (by omega) (by omega)
  rw [Int.toNat_natCast] at hK hc0
  have hc : ∀ j u, c[j]? = some u → w.cell? (ad.add (i * 1 + j)) = some u := hc0
  obtain ⟨A0, c0, rfl, l0, g0⟩ := hK
  exact ⟨ad, A0, c0, e, by have hq := hc 0 _ rfl; rwa [Nat.mul_one, Nat.add_zero] at hq, l0, g0⟩
def idxR (p : List Int → Bool) (l : List (List Int)) : Int := if l.any p = true then (l.findIdx p : Int) else -1
theorem getDR (l : List (List Int)) (k : Nat) (h : k < l.length) : l.getD k [] = l[k] := by
  rw [List.getD_eq_getElem?_getD, List.getElem?_eq_getElem h]; rfl
theorem idxR_hit (p : List Int → Bool) (l : List (List Int)) (k : Nat) (h : k < l.length) (h1 : p (l.getD k []) = true) (h2 : ∀ j, j < k → p (l.getD j []) = false) : idxR p l = k := by
  unfold idxR
  rw [getDR l k h] at h1
  rw [if_pos (List.any_eq_true.2 ⟨l[k], List.getElem_mem h, h1⟩)]
  congr 1
  refine (List.findIdx_eq h).2 ⟨h1, fun j hj => ?_⟩
  have := h2 j hj
  rwa [getDR l j (by omega)] at this
theorem idxR_miss (p : List Int → Bool) (l : List (List Int)) (h : ∀ j, j < l.length → p (l.getD j []) = false) : idxR p l = -1 := by
  unfold idxR
  rw [if_neg]
  intro h1
  obtain ⟨x, hx, hp⟩ := List.any_eq_true.1 h1
  obtain ⟨j, hj, e⟩ := List.getElem_of_mem hx
  have := h j hj
  rw [getDR l j hj, e, hp] at this
  cases this
theorem idxR_any (p : List Int → Bool) (l : List (List Int)) : decide (0 ≤ idxR p l) = l.any p := by
  unfold idxR
  split
  · rename_i h; rw [h]; simp
  · rename_i h; rw [Bool.eq_false_iff.2 h]; rfl
set_option maxHeartbeats 4000000 in
theorem slices_IndexFunc_R.calls (g : Nat) (lb : Array Value) (p : List Int → Bool) (eg : ∀ args w, (callFunc g args).run Try.prog w = .ok (.enter g args) w) (A0 : Option Addr) (c0 : Nat) (l0 : List (List Int)) (w : World) (hr0 : Kd.C (Kd.slice 2 (Kd.int .i64)) w A0 l0.length l0)
    (hp : ∀ (W : World) (A : Option Addr) (c : Nat) (x : List Int), x ∈ l0 → Below w.heap.size w W → Kd.C (Kd.int .i64) W A x.length x → x.length ≤ c → Calls Try.prog g (#[.slice A x.length c] ++ lb) W fun e w' => e = .returned (.bool (p x)) ∧ Below w.heap.size w w') :
    Calls Try.prog 66 #[.slice A0 l0.length c0, .func (.func g) #[] lb] w fun e w' => e = .returned (.int .i64 (idxR p l0)) ∧ Below w.heap.size w w' := by
  have hbig := Kd.C_max hr0
  have HR := Aside0.mk hr0
  clear hr0
  have HP := Aside0.mk hp
  clear hp
  go_enter Try.func66, Try.ntmps66
  go_wp2
  go_loopg [5, 8] l0.length (fun gg _ s8 wr => ∃ kk : Nat, kk ≤ l0.length ∧ l0.length - kk ≤ gg ∧ s8 = .int .i64 kk ∧ Aside0 (Below w.heap.size w wr) ∧ Aside0 (∀ j, j < kk → p (l0.getD j []) = false))
  case atStart => exact ⟨0, Nat.zero_le _, by omega, rfl, ⟨Below.refl _ w⟩, ⟨fun j hj => absurd hj (Nat.not_lt_zero _)⟩⟩
  case round =>
    obtain ⟨kk, hkk, hg, rfl, BW, A⟩ := hrel
    by_cases hlt : kk < l0.length
    · have hltz : (kk : Int) < (l0.length : Int) := by omega
      obtain ⟨ad, Ax, cx, e1, hc, hl1, hC1⟩ := ch_at (Kd.C_below HR.out BW.out) kk hlt
      cases e1
      have hmem : l0.getD kk [] ∈ l0 := by rw [getDR _ _ hlt]; exact List.getElem_mem hlt
      have hcall := fun W hB => HP.out W Ax cx (l0.getD kk []) hmem hB
      generalize hy : l0.getD kk [] = y at hc hcall hl1 hC1
      have B := Aside0.mk hy
      have HCALL := Aside0.mk hcall
      have HC1 := Aside0.mk hC1
      have HL1 := Aside0.mk hl1
      clear hy hcall hC1 hl1 hmem
      cases hq : p y with
      | true =>
        have hcall := HCALL.out
        rw [hq] at hcall
        have HCT := Aside0.mk hcall
        have HQ := Aside0.mk hq
        clear hq hcall HCALL
        go_wp2_with (fail)
        refine (HCT.out _ (by repeat (first | exact BW.out | apply pw_below_drewN | apply below_drew1)) (by first | exact HC1.out | exact Kd.C_drew HC1.out) HL1.out).mono ?_
        rintro e w' ⟨rfl, hb0⟩
        have hb' := Aside0.mk hb0
        clear hb0 hc
        dsimp only
        go_wp2
        go_ret
        refine ⟨?_, hb'.out⟩
        rw [idxR_hit p l0 kk hlt (by rw [B.out]; exact HQ.out) A.out]; rfl
      | false =>
        have hcall := HCALL.out
        rw [hq] at hcall
        have HCT := Aside0.mk hcall
        have HQ := Aside0.mk hq
        clear hq hcall HCALL
        go_wp2_with (fail)
        refine (HCT.out _ (by repeat (first | exact BW.out | apply pw_below_drewN | apply below_drew1)) (by first | exact HC1.out | exact Kd.C_drew HC1.out) HL1.out).mono ?_
        rintro e w' ⟨rfl, hb0⟩
        have hb' := Aside0.mk hb0
        clear hb0 hc
        dsimp only
        go_wp2
        go_roundg (l0.length - (kk + 1))
        case measure => omega
        case rel =>
          refine ⟨kk + 1, by omega, by omega, by go_num, hb', ⟨fun j hj => ?_⟩⟩
          by_cases e : j = kk
          · subst e
            rw [B.out]; exact HQ.out
          · exact A.out j (by omega)
    · have hltz : ¬ (kk : Int) < (l0.length : Int) := by omega
      obtain rfl : kk = l0.length := by omega
      go_wp2
      go_ret
      refine ⟨?_, BW.out⟩
      rw [idxR_miss p l0 A.out]; rfl
theorem slices_ContainsFunc_R.calls (g : Nat) (lb : Array Value) (p : List Int → Bool) (eg : ∀ args w, (callFunc g args).run Try.prog w = .ok (.enter g args) w) (A0 : Option Addr) (c0 : Nat) (l0 : List (List Int)) (w : World) (hr0 : Kd.C (Kd.slice 2 (Kd.int .i64)) w A0 l0.length l0)
    (hp : ∀ (W : World) (A : Option Addr) (c : Nat) (x : List Int), x ∈ l0 → Below w.heap.size w W → Kd.C (Kd.int .i64) W A x.length x → x.length ≤ c → Calls Try.prog g (#[.slice A x.length c] ++ lb) W fun e w' => e = .returned (.bool (p x)) ∧ Below w.heap.size w w') :
    Calls Try.prog 52 #[.slice A0 l0.length c0, .func (.func g) #[] lb] w fun e w' => e = .returned (.bool (l0.any p)) ∧ Below w.heap.size w w' := by
  have e0 : l0.any p = decide (0 ≤ idxR p l0) := (idxR_any p l0).symm
  have hcall := slices_IndexFunc_R.calls g lb p eg A0 c0 l0 w hr0 hp
  have E0 := Aside0.mk e0
  clear e0 hp
  generalize idxR p l0 = r at hcall E0
  go_enter Try.func52, Try.ntmps52
  go_wp2_with (go_at_call 66; refine hcall.mono ?_; rintro e w' ⟨rfl, hb'⟩)
  go_ret
  exact ⟨by rw [E0.out]; rfl, hb'⟩
set_option maxHeartbeats 4000000 in
theorem impl_choicesOf_1.calls (k : Nat) (g : Nat) (Ao : Option Addr) (co : Nat) (o : List Int) (A : Option Addr) (c : Nat) (x : List Int) (r : Bool) (W : World) (hx : Kd.C (Kd.int .i64) W A x.length x) (hcx : x.length ≤ c) (ho : Kd.C (Kd.int .i64) W Ao o.length o) (hco : o.length ≤ co) (hg : W.cell? ⟨g, 0, none⟩ = some (.slice Ao o.length co)) (h : slices_Equal_int64_int64.f k x o = some r) :
    Calls Try.prog 53 #[.slice A x.length c, .pointer (some ⟨g, 0, none⟩)] W fun e w' => e = .returned (.bool r) ∧ Below W.heap.size W w' := by
  have HX := Aside0.mk hx
  have HO := Aside0.mk ho
  have HCX := Aside0.mk hcx
  have HCO := Aside0.mk hco
  have H := Aside0.mk h
  clear hx ho hcx hco h
  go_enter Try.func53, Try.ntmps53
  go_wp2_with (fail)
  refine (slices_Equal_int64_int64.calls k A c x Ao co o r _ (by first | exact HX.out | exact Kd.C_drew HX.out) HCX.out (by first | exact HO.out | exact Kd.C_drew HO.out) HCO.out H.out).mono ?_
  rintro e w' ⟨rfl, ⟨nd, rfl⟩⟩
  dsimp only
  go_wp2
  go_ret
  exact ⟨rfl, by repeat (first | exact Below.refl _ _ | apply pw_below_drewN | apply below_drew1)⟩
def chRow (lo M : Nat) (W : World) (cc : Nat) (v : Value) (r : List Int) : Prop := (v = .slice none 0 0 ∧ r = []) ∨ ∃ b, lo ≤ b ∧ b ≠ cc ∧ b < W.heap.size ∧ v = .slice (some ⟨b, 0, none⟩) (M + 1) (M + 1) ∧ r.length = M + 1 ∧ W.heap[b]? = some (.cells (r.map (Value.int .i64)).toArray 2 (0, 0))
structure chA (lo M cc N : Nat) (arr : Array Value) (CL : List (List Int)) (W : World) : Prop where
  len : CL.length = N
  hc : W.heap[cc]? = some (.cells arr 25 (0, 0))
  lc : lo ≤ cc
  sz : arr.size = N
  row : ∀ j, j < N → ∃ v, arr[j]? = some v ∧ chRow lo M W cc v (CL.getD j [])
theorem chRow_move {lo M cc : Nat} {W W1 : World} {v : Value} {r : List Int} (h : chRow lo M W cc v r) (hm : ∀ q, lo ≤ q → q < W.heap.size → q ≠ cc → W1.heap[q]? = W.heap[q]?) (hs : W.heap.size ≤ W1.heap.size) : chRow lo M W1 cc v r := by
  rcases h with h | ⟨b, h1, h2, h3, h4, h5, h6⟩
  · exact .inl h
  · exact .inr ⟨b, h1, h2, by omega, h4, h5, (hm b h1 h3 h2).trans h6⟩
theorem chA_move {lo M cc N : Nat} {arr : Array Value} {CL : List (List Int)} {W W1 : World} (h : chA lo M cc N arr CL W) (hm : ∀ q, lo ≤ q → q < W.heap.size → W1.heap[q]? = W.heap[q]?) (hs : W.heap.size ≤ W1.heap.size) : chA lo M cc N arr CL W1 := by
  refine ⟨h.len, (hm cc h.lc (Array.getElem?_eq_some_iff.1 h.hc).1).trans h.hc, h.lc, h.sz, fun j hj => ?_⟩
  obtain ⟨v, hv, hr⟩ := h.row j hj
  exact ⟨v, hv, chRow_move hr (fun q h1 h2 _ => hm q h1 h2) hs⟩
theorem chA_below {lo M cc N : Nat} {arr : Array Value} {CL : List (List Int)} {W W1 : World} (h : chA lo M cc N arr CL W) (hb : Below W.heap.size W W1) : chA lo M cc N arr CL W1 :=
  chA_move h (fun q _ hq => hb.block q hq) hb.size
theorem chA_drew {lo M cc N : Nat} {arr : Array Value} {CL : List (List Int)} {W : World} (h : chA lo M cc N arr CL W) : chA lo M cc N arr CL W.drew := ⟨h.len, h.hc, h.lc, h.sz, h.row⟩
theorem chA_start {lo M N : Nat} {W : World} (hl : lo ≤ W.heap.size) : chA lo M W.heap.size N (Go.madeCells #[.slice none 0 0] N) (List.replicate N []) (W.alloc (.cells (Go.madeCells #[.slice none 0 0] N) 25)) := by
  have e : Go.madeCells #[Value.slice none 0 0] N = Array.replicate N (.slice none 0 0) := by
    unfold Go.madeCells
    apply Array.ext_getElem?
    intro q
    simp [Nat.mod_one, Array.getElem?_replicate]
    by_cases h : q < N
    · rw [if_pos h]; simp [h]
    · rw [if_neg h]; simp [h]
  refine ⟨List.length_replicate, by simpa using heap_alloc_new W _, hl, by rw [e]; simp, fun j hj => ⟨.slice none 0 0, by rw [e, Array.getElem?_replicate, if_pos hj], .inl ⟨rfl, ?_⟩⟩⟩
  rw [List.getD_eq_getElem?_getD, List.getElem?_replicate]
  split <;> rfl
theorem chA_new {lo M cc N kk : Nat} {arr : Array Value} {CL : List (List Int)} {W : World} (h : chA lo M cc N arr CL W) (hk : kk < N) (hl : lo ≤ W.heap.size) :
    chA lo M cc N (arr.setIfInBounds kk (.slice (some ⟨W.heap.size, 0, none⟩) (M + 1) (M + 1))) (CL.set kk (List.replicate (M + 1) 0)) ((W.alloc (.cells ((List.replicate (M + 1) (0 : Int)).map (Value.int .i64)).toArray 2)).setCell ⟨cc, kk, none⟩ (.slice (some ⟨W.heap.size, 0, none⟩) (M + 1) (M + 1))) := by
  have hcl := (Array.getElem?_eq_some_iff.1 h.hc).1
  have hsz : ∀ (X : World) (a : Addr) (v : Value), (X.setCell a v).heap.size = X.heap.size := fun X a v => by simp [World.setCell]
  refine ⟨by rw [List.length_set]; exact h.len, ?_, h.lc, by rw [Array.size_setIfInBounds]; exact h.sz, fun j hj => ?_⟩
  · refine blk_put (i := kk) ?_ (u := .slice (some ⟨W.heap.size, 0, none⟩) (M + 1) (M + 1)) rfl
    rw [Below.heap_alloc _ _ _ hcl]; exact h.hc
  · have hlen := h.len
    by_cases e : j = kk
    · subst e
      refine ⟨_, by rw [Array.getElem?_setIfInBounds, if_pos rfl, if_pos (by rw [h.sz]; exact hj)], .inr ⟨W.heap.size, hl, by omega, ?_, rfl, ?_, ?_⟩⟩
      · rw [hsz]; simp
      · rw [List.getD_eq_getElem?_getD, List.getElem?_set_self (by omega)]; simp
      · rw [Below.heap_setCell _ _ _ _ (by show W.heap.size ≠ cc; omega), List.getD_eq_getElem?_getD, List.getElem?_set_self (by omega)]
        simpa using heap_alloc_new W _
    · obtain ⟨v, hv, hr⟩ := h.row j hj
      refine ⟨v, by rw [Array.getElem?_setIfInBounds, if_neg (Ne.symm e)]; exact hv, ?_⟩
      rw [List.getD_eq_getElem?_getD, List.getElem?_set_ne (Ne.symm e), ← List.getD_eq_getElem?_getD]
      refine chRow_move hr (fun q h1 h2 h3 => ?_) (by rw [hsz]; simp)
      rw [Below.heap_setCell _ _ _ _ h3, Below.heap_alloc _ _ _ h2]
theorem chA_set {lo M cc N kk m b : Nat} {x : Int} {arr : Array Value} {CL : List (List Int)} {W : World} (h : chA lo M cc N arr CL W) (hk : kk < N) (ha : arr[kk]? = some (.slice (some ⟨b, 0, none⟩) (M + 1) (M + 1))) (hsep : ∀ j, j < N → j ≠ kk → arr[j]? ≠ some (.slice (some ⟨b, 0, none⟩) (M + 1) (M + 1))) (hbc : b ≠ cc) :
    chA lo M cc N arr (CL.set kk ((CL.getD kk []).set m x)) (W.setCell ⟨b, m, none⟩ (.int .i64 x)) := by
  have hsz : ∀ (X : World) (a : Addr) (v : Value), (X.setCell a v).heap.size = X.heap.size := fun X a v => by simp [World.setCell]
  have hlen := h.len
  refine ⟨by rw [List.length_set]; exact h.len, ?_, h.lc, h.sz, fun j hj => ?_⟩
  · rw [Below.heap_setCell _ _ _ _ (by show cc ≠ b; omega)]; exact h.hc
  · obtain ⟨v, hv, hr⟩ := h.row j hj
    refine ⟨v, hv, ?_⟩
    by_cases e : j = kk
    · subst e
      rw [ha] at hv
      obtain rfl := Option.some.inj hv
      rcases hr with ⟨h1, _⟩ | ⟨b', h1, h2, h3, h4, h5, h6⟩
      · simp at h1
      · simp only [Value.slice.injEq, Option.some.injEq, Addr.mk.injEq, and_true] at h4
        subst h4
        refine .inr ⟨b, h1, h2, by rw [hsz]; exact h3, rfl, ?_, ?_⟩
        · rw [List.getD_eq_getElem?_getD, List.getElem?_set_self (by omega), Option.getD_some, List.length_set]; exact h5
        · rw [List.getD_eq_getElem?_getD, List.getElem?_set_self (by omega), Option.getD_some]
          refine blk_put h6 m _ ?_
          rw [List.map_set]
          simp
    · rw [List.getD_eq_getElem?_getD, List.getElem?_set_ne (Ne.symm e), ← List.getD_eq_getElem?_getD]
      rcases hr with h1 | ⟨b', h1, h2, h3, h4, h5, h6⟩
      · exact .inl h1
      · have hne : b' ≠ b := fun e' => by subst e'; exact hsep j hj e (by rw [hv, h4])
        exact .inr ⟨b', h1, h2, by rw [hsz]; exact h3, h4, h5, by rw [Below.heap_setCell _ _ _ _ hne]; exact h6⟩
theorem chA_C {lo M cc N : Nat} {arr : Array Value} {CL : List (List Int)} {W : World} (h : chA lo M cc N arr CL W) (hN : N ≤ 1000000) (hM : M ≤ 1000000) : Kd.C (Kd.slice 2 (Kd.int .i64)) W (some ⟨cc, 0, none⟩) CL.length CL := by
  have hlen := h.len
  refine ⟨rfl, by omega, fun _ => ⟨⟨cc, 0, none⟩, rfl, fun j p hj => ?_⟩⟩
  have hjN : j < N := by rw [← hlen]; exact (List.getElem?_eq_some_iff.1 hj).1
  obtain ⟨v, hv, hr⟩ := h.row j hjN
  have hp : CL.getD j [] = p := by rw [List.getD_eq_getElem?_getD, hj]; rfl
  rw [hp] at hr
  refine ⟨[v], rfl, ?_, fun i u hi => ?_⟩
  · rcases hr with ⟨rfl, rfl⟩ | ⟨b, h1, h2, h3, rfl, h5, h6⟩
    · exact ⟨none, 0, rfl, Nat.le_refl _, Kd.C_nil _ _⟩
    · refine ⟨some ⟨b, 0, none⟩, M + 1, by rw [h5], by omega, rfl, by omega, fun _ => ⟨⟨b, 0, none⟩, rfl, fun i p' hi => ⟨[.int .i64 p'], rfl, rfl, fun i' u hi' => ?_⟩⟩⟩
      have e0 : i' = 0 ∧ u = .int .i64 p' := by
        cases i' with
        | zero => exact ⟨rfl, by simpa using hi'.symm⟩
        | succ q => simp at hi'
      obtain ⟨rfl, rfl⟩ := e0
      have := blk_cell h6 i
      show W.cell? ((⟨b, 0, none⟩ : Addr).add (i * 1 + 0)) = _
      rw [show (⟨b, 0, none⟩ : Addr).add (i * 1 + 0) = ⟨b, i, none⟩ by simp [Addr.add]; exact fun h => h.symm, this]
      simp [hi]
  · have e0 : i = 0 ∧ u = v := by
      cases i with
      | zero => exact ⟨rfl, by simpa using hi.symm⟩
      | succ q => simp at hi
    obtain ⟨rfl, rfl⟩ := e0
    have := blk_cell h.hc j
    show W.cell? ((⟨cc, 0, none⟩ : Addr).add (j * 1 + 0)) = _
    rw [show (⟨cc, 0, none⟩ : Addr).add (j * 1 + 0) = ⟨cc, j, none⟩ by simp [Addr.add]; exact fun h => h.symm, this]
    exact hv
theorem chA_sep {lo M cc N kk j : Nat} {u : Value} {arr : Array Value} {CL : List (List Int)} {W : World} (h : chA lo M cc N arr CL W) (hj : j < N) (hne : j ≠ kk) :
    (arr.setIfInBounds kk u)[j]? ≠ some (.slice (some ⟨W.heap.size, 0, none⟩) (M + 1) (M + 1)) := by
  obtain ⟨v, hv, hr⟩ := h.row j hj
  rw [Array.getElem?_setIfInBounds, if_neg (Ne.symm hne), hv]
  intro e
  obtain rfl := Option.some.inj e
  rcases hr with ⟨h1, _⟩ | ⟨b, h1, h2, h3, h4, h5, h6⟩
  · simp at h1
  · simp only [Value.slice.injEq, Option.some.injEq, Addr.mk.injEq, and_true] at h4
    omega
theorem chA_cells {lo M cc N kk m b : Nat} {arr : Array Value} {CL : List (List Int)} {W : World} (h : chA lo M cc N arr CL W) (ha : arr[kk]? = some (.slice (some ⟨b, 0, none⟩) (M + 1) (M + 1))) (hk : kk < N) (hm : m < M + 1) :
    ∃ x, W.cell? ⟨b, m, none⟩ = some (.int .i64 x) ∧ W.frozen? ⟨b, m, none⟩ = false ∧ W.cell? ⟨cc, kk, none⟩ = some (.slice (some ⟨b, 0, none⟩) (M + 1) (M + 1)) := by
  obtain ⟨v, hv, hr⟩ := h.row kk hk
  rw [ha] at hv
  obtain rfl := Option.some.inj hv
  rcases hr with ⟨h1, _⟩ | ⟨b', h1, h2, h3, h4, h5, h6⟩
  · simp at h1
  · simp only [Value.slice.injEq, Option.some.injEq, Addr.mk.injEq, and_true] at h4
    subst h4
    refine ⟨(CL.getD kk [])[m]'(by omega), ?_, blk_frozen h6 m, (blk_cell h.hc kk).trans ha⟩
    rw [blk_cell h6 m, List.getElem?_toArray, List.getElem?_map, List.getElem?_eq_getElem (show m < (CL.getD kk []).length by omega)]
    rfl
theorem chA_row {lo M cc N kk b : Nat} {arr : Array Value} {CL : List (List Int)} {W : World} (h : chA lo M cc N arr CL W) (ha : arr[kk]? = some (.slice (some ⟨b, 0, none⟩) (M + 1) (M + 1))) (hk : kk < N) :
    W.heap[b]? = some (.cells ((CL.getD kk []).map (Value.int .i64)).toArray 2 (0, 0)) := by
  obtain ⟨v, hv, hr⟩ := h.row kk hk
  rw [ha] at hv
  obtain rfl := Option.some.inj hv
  rcases hr with ⟨h1, _⟩ | ⟨b', h1, h2, h3, h4, h5, h6⟩
  · simp at h1
  · simp only [Value.slice.injEq, Option.some.injEq, Addr.mk.injEq, and_true] at h4
    subst h4
    exact h6
theorem chA_blt {lo M cc N kk b : Nat} {arr : Array Value} {CL : List (List Int)} {W : World} (h : chA lo M cc N arr CL W) (ha : arr[kk]? = some (.slice (some ⟨b, 0, none⟩) (M + 1) (M + 1))) (hk : kk < N) : b < W.heap.size := blk_lt (chA_row h ha hk)
def ch_units (k : Nat) (l0 : List S66) : List (List Int) → Option (List Int)
  | [] => some []
  | b :: bs => (impl_unitsOfComposed.f k l0 b).bind fun u => (ch_units k l0 bs).bind fun us => some (u :: us)
def ch_eqs (k : Nat) (B : List (List Int)) : Bool := B.all fun x => B.all fun y => decide (slices_Equal_int64_int64.f k x y = some (decide (x = y)))
def ch_pick (B : List (List Int)) (us : List Int) (kk i : Nat) : Bool := !((B.take i).any fun x => decide (x = B.getD i [])) && decide (us.getD i 0 = us.getD kk 0)
def ch_opt (B : List (List Int)) (us : List Int) (kk n : Nat) : List Int := ((List.range n).filter fun i => ch_pick B us kk i).map fun (i : Nat) => (i : Int)
def ch_opts (B : List (List Int)) (us : List Int) (n : Nat) : List (List Int) := (List.range n).map fun kk => ch_opt B us kk B.length
def ch_in (k : Nat) (B O : List (List Int)) (kk : Nat) : Nat → Nat → List (List Int) → Option (List (List Int))
  | 0, _, C => some C
  | d + 1, m, C => (impl_choices_count.f k B O C kk m).bind fun v => ch_in k B O kk d (m + 1) (C.set kk ((C.getD kk []).set m v))
def ch_out (k : Nat) (B O : List (List Int)) (M : Nat) : Nat → List (List Int) → Option (List (List Int))
  | 0, C => some C
  | s + 1, C => (ch_in k B O s (M + 1) 0 (C.set s (List.replicate (M + 1) 0))).bind fun C' => ch_out k B O M s C'
def impl_choicesOf.f (k : Nat) (l0 : List S66) (l1 : List Int) (a2 a3 : Int) : Option (List (List Int) × List (List Int) × List (List Int) × Int) := (impl_themeCode.f k l0 l1 a2).bind fun c => if c = 0 then (if 0 ≤ a3 ∧ a3 ≤ 32 then (impl_blocksOf.f l1 a2).bind fun B => if B.length ≤ 1000 ∧ ch_eqs k B = true then (ch_units k l0 B).bind fun us => (ch_out k B (ch_opts B us B.length) a3.toNat (B.length + 1) (List.replicate (B.length + 1) [])).bind fun C => some (B, ch_opts B us B.length, C, 0) else none else some ([], [], [], 2)) else some ([], [], [], c)
theorem ch_units.mono (k : Nat) (l0 : List S66) : ∀ B, LeO (ch_units k l0 B) (ch_units (k + 1) l0 B)
  | [] => LeO.refl _
  | b :: bs => by
    unfold ch_units
    exact LeO.bind (impl_unitsOfComposed.mono _ _ _) (fun _ => LeO.bind (ch_units.mono k l0 bs) (fun _ => LeO.refl _))
theorem ch_eqs.mono (k : Nat) (B : List (List Int)) (h : ch_eqs k B = true) : ch_eqs (k + 1) B = true := by
  unfold ch_eqs at h ⊢
  rw [List.all_eq_true] at h ⊢
  intro x hx
  have h1 := h x hx
  rw [List.all_eq_true] at h1 ⊢
  intro y hy
  have h2 := h1 y hy
  rw [decide_eq_true_eq] at h2 ⊢
  exact slices_Equal_int64_int64.mono _ _ _ _ h2
theorem ch_in.mono (k : Nat) (B O : List (List Int)) (kk : Nat) : ∀ d m C, LeO (ch_in k B O kk d m C) (ch_in (k + 1) B O kk d m C)
  | 0, _, _ => LeO.refl _
  | d + 1, m, C => by
    unfold ch_in
    exact LeO.bind (impl_choices_count.mono _ _ _ _ _ _) (fun _ => ch_in.mono k B O kk d _ _)
theorem ch_out.mono (k : Nat) (B O : List (List Int)) (M : Nat) : ∀ s C, LeO (ch_out k B O M s C) (ch_out (k + 1) B O M s C)
  | 0, _ => LeO.refl _
  | s + 1, C => by
    unfold ch_out
    exact LeO.bind (ch_in.mono k B O _ _ _ _) (fun _ => ch_out.mono k B O M s _)
theorem impl_choicesOf.mono : ∀ a0 a1 a2 a3 k, LeO (impl_choicesOf.f k a0 a1 a2 a3) (impl_choicesOf.f (k + 1) a0 a1 a2 a3) := by
  intro a0 a1 a2 a3 k
  unfold impl_choicesOf.f
  refine LeO.bind (impl_themeCode.mono _ _ _ _) (fun _ => LeO.ite (LeO.ite ?_ (LeO.refl _)) (LeO.refl _))
  refine LeO.bind (LeO.refl _) (fun B => ?_)
  intro r h
  by_cases ok : B.length ≤ 1000 ∧ ch_eqs k B = true
  · rw [if_pos ok] at h
    rw [if_pos ⟨ok.1, ch_eqs.mono _ _ ok.2⟩]
    exact LeO.bind (ch_units.mono _ _ _) (fun _ => LeO.bind (ch_out.mono _ _ _ _ _ _) (fun _ => LeO.refl _)) r h
  · rw [if_neg ok] at h
    cases h
theorem ch_info2 : (Try.prog.info? 2).map (fun i => (i.zero, i.size, i.bytes)) = some (some (.int .i64 0), 1, 8) := by kernel_rfl
theorem ch_info25 : (Try.prog.info? 25).map (fun i => (i.zero, i.size, i.bytes)) = some (some (.slice none 0 0), 1, 24) := by kernel_rfl
theorem ch_opt_len (B : List (List Int)) (us : List Int) (kk n : Nat) : (ch_opt B us kk n).length ≤ n := by
  unfold ch_opt
  rw [List.length_map]
  exact Nat.le_trans (List.length_filter_le _ _) (by rw [List.length_range]; exact Nat.le_refl _)
theorem ch_opt_yes {B : List (List Int)} {us : List Int} {kk n : Nat} (h : ch_pick B us kk n = true) : ch_opt B us kk (n + 1) = ch_opt B us kk n ++ [(n : Int)] := by
  unfold ch_opt
  rw [List.range_succ, List.filter_append, List.map_append]
  simp [h]
theorem ch_opt_no {B : List (List Int)} {us : List Int} {kk n : Nat} (h : ch_pick B us kk n = false) : ch_opt B us kk (n + 1) = ch_opt B us kk n := by
  unfold ch_opt
  rw [List.range_succ, List.filter_append, List.map_append]
  simp [h]
theorem ch_units_get {k : Nat} {l0 : List S66} : ∀ {B : List (List Int)} {us : List Int}, ch_units k l0 B = some us → ∀ j, j < B.length → impl_unitsOfComposed.f k l0 (B.getD j []) = some (us.getD j 0)
  | [], _, _, j, hj => absurd hj (Nat.not_lt_zero _)
  | b :: bs, us, h, j, hj => by
    unfold ch_units at h
    obtain ⟨u, hu, h⟩ := Option.bind_eq_some_iff.mp h
    obtain ⟨us', hus, h⟩ := Option.bind_eq_some_iff.mp h
    obtain rfl := Option.some.inj h
    cases j with
    | zero => exact hu
    | succ j => exact ch_units_get hus j (by simpa using hj)
theorem ch_keepG {W W1 : World} {g base : Nat} {cs : Array Value} {v : Value} {xs : List Int} (hg : W.heap[g]? = some (.cells cs 51 (0, 0))) (hR : Kd.R (Kd.int .i64) 2 W base (fun _ => True) v xs) (h : W.grownBy W1 v.ownBlock) : W1.heap[g]? = some (.cells cs 51 (0, 0)) :=
  blk_grown hg h (Kd.R_ne hR hg (by decide))
theorem ch_opts_len (B : List (List Int)) (us : List Int) (n : Nat) : (ch_opts B us n).length = n := by
  unfold ch_opts
  rw [List.length_map, List.length_range]
theorem ch_opts_succ (B : List (List Int)) (us : List Int) (n : Nat) : ch_opts B us (n + 1) = ch_opts B us n ++ [ch_opt B us n B.length] := by
  unfold ch_opts
  rw [List.range_succ, List.map_append]
  rfl
theorem ch_keepS {W W1 : World} {g : Nat} {cs : Array Value} {v : Value} (hg : W.heap[g]? = some (.cells cs 51 (0, 0))) (hv : ∀ k, v.ownBlock = some k → ∃ cells, W.heap[k]? = some (.cells cells 25 (0, 0))) (h : W.grownBy W1 v.ownBlock) : W1.heap[g]? = some (.cells cs 51 (0, 0)) :=
  blk_grown hg h (fun e => by
    obtain ⟨cells, hc⟩ := hv g e.symm
    rw [hg] at hc
    simp at hc)
theorem ch_made (M : Nat) : Go.madeCells #[.int .i64 0] (M + 1) = ((List.replicate (M + 1) (0 : Int)).map (Value.int .i64)).toArray := by
  unfold Go.madeCells
  apply Array.ext_getElem?
  intro q
  simp [Nat.mod_one, List.getElem?_replicate]
  by_cases h : q < M + 1
  · simp [h]
  · simp [h]
def impl_choicesOf.T28 : Bool × List (List Nat × List Nat) := (true, [([], []), ([0], [0]), ([], []), ([1, 2], [1, 2]), ([3], [3]), ([], []), ([], []), ([], []), ([], []), ([6, 7, 8], [6, 7, 8]), ([4, 5, 0, 1, 2, 3, 4, 5, 6, 7, 8, 9], [4, 5]), ([10, 9, 9, 0, 1, 2, 3, 4, 5, 6, 7, 8, 9], [9, 10])])
def impl_choicesOf.B28 : List Nat := [0, 1, 0, 7, 15, 0, 0, 0, 0, 448, 1023, 2047]
theorem impl_choicesOf.tab28 : rtab .any (opsOf Try.f27 28) = impl_choicesOf.T28 := by kernel_rfl
theorem impl_choicesOf.bits28 : waitsOk impl_choicesOf.T28.2 impl_choicesOf.B28 = true := by kernel_rfl
theorem ch_rep (M : Nat) : ((List.replicate (M + 1) (0 : Int)).map (Value.int .i64)).toArray = Array.replicate (M + 1) (.int .i64 0) := by simp
theorem ch_within (a b c : Int) (r : Bool) (h : decide (b ≤ a ∧ a ≤ c) = r) : impl_within.f a b c = some r := by
  subst h
  unfold impl_within.f
  split
  · rename_i h
    congr 1
    rw [decide_eq_decide]
    omega
  · rename_i h
    rw [decide_eq_false (by omega)]
theorem ch_res {fn : Func} {p u : Tmp} {ty : TypeId} (h : fn.results = #[.cell p ty, .tmp u]) (tmps : Array Value) (w : World) (g : Nat) (cs : Array Value)
    (hp : tmps.getD p undef = .pointer (some ⟨g, 0, none⟩)) (hl : (loadVar ty ⟨g, 0, none⟩).run Try.prog w = .ok (.agg cs) w) :
    (results fn tmps).run Try.prog w = .ok (.tuple #[.agg cs, tmps.getD u undef]) w := by
  have hp' : tmps[p]?.getD undef = .pointer (some ⟨g, 0, none⟩) := by simpa using hp
  simp [results, h, hp', asAddr, Sem.run_bind, Result.andThen, hl]
theorem ch_load {W : World} {g : Nat} {cs : Array Value} (hs : cs.size = 3) (hg : W.heap[g]? = some (.cells cs 51 (0, 0))) : (loadVar 51 ⟨g, 0, none⟩).run Try.prog W = .ok (.agg cs) W :=
  run_loadVar_row W g 51 51 cs (0, 0) _ hg Try.underlying51 rfl (by rw [hs]; kernel_rfl)
theorem ch_put3 {W : World} {g : Nat} {a b c x y z : Value} (h : W.heap[g]? = some (.cells #[a, b, c] 51 (0, 0))) : (((W.setCell ⟨g, 0, none⟩ x).setCell ⟨g, 1, none⟩ y).setCell ⟨g, 2, none⟩ z).heap[g]? = some (.cells #[x, y, z] 51 (0, 0)) := by
  refine blk_put (cs := #[x, y, c]) ?_ 2 _ rfl
  refine blk_put (cs := #[x, b, c]) ?_ 1 _ rfl
  refine blk_put (cs := #[a, b, c]) ?_ 0 _ rfl
  exact h
theorem ch_far {lo M cc N gc j : Nat} {u : Value} {arr : Array Value} {CL : List (List Int)} {W : World} {cs : Array Value} (h : chA lo M cc N arr CL W) (hg : W.heap[gc]? = some (.cells cs 51 (0, 0))) : chA lo M cc N arr CL (W.setCell ⟨gc, j, none⟩ u) := by
  have hsz : (W.setCell ⟨gc, j, none⟩ u).heap.size = W.heap.size := by simp [World.setCell]
  have hne : ∀ q cs', W.heap[q]? = some (.cells cs' 2 (0, 0)) ∨ W.heap[q]? = some (.cells cs' 25 (0, 0)) → q ≠ gc := by
    rintro q cs' h rfl
    rw [hg] at h
    rcases h with h | h <;> simp at h
  refine ⟨h.len, ?_, h.lc, h.sz, fun i hi => ?_⟩
  · rw [Below.heap_setCell _ _ _ _ (hne _ _ (.inr h.hc))]; exact h.hc
  · obtain ⟨v, hv, hr⟩ := h.row i hi
    refine ⟨v, hv, ?_⟩
    rcases hr with h1 | ⟨b, h1, h2, h3, h4, h5, h6⟩
    · exact .inl h1
    · exact .inr ⟨b, h1, h2, by rw [hsz]; exact h3, h4, h5, by rw [Below.heap_setCell _ _ _ _ (hne _ _ (.inl h6))]; exact h6⟩
def chP (w w' : World) (e : Ending) (B O C : List (List Int)) (r : Int) : Prop := ∃ Ab cb Ao co Ac cc, e = .returned (.tuple #[.agg #[.slice Ab B.length cb, .slice Ao O.length co, .slice Ac C.length cc], .int .i64 r]) ∧ (Kd.C (Kd.slice 2 (Kd.int .i64)) w' Ab B.length B ∧ B.length ≤ cb) ∧ (Kd.C (Kd.slice 2 (Kd.int .i64)) w' Ao O.length O ∧ O.length ≤ co) ∧ (Kd.C (Kd.slice 2 (Kd.int .i64)) w' Ac C.length C ∧ C.length ≤ cc) ∧ Below w.heap.size w w'
theorem ch_err {P : Program} {fn : Func} {a : Act} {W w : World} {r : Int} (hr : (results fn a.tmps).run P W = .ok (.tuple #[.agg #[.slice none 0 0, .slice none 0 0, .slice none 0 0], .int .i64 r]) W) (hd : a.defers = []) (hB : Below w.heap.size w W) : bodyPost P fn (fun e w' => chP w w' e [] [] [] r) .ret a W := by
  refine bodyPost_ret hr hd ?_
  exact ⟨none, 0, none, 0, none, 0, rfl, ⟨Kd.C_nil _ _, Nat.le_refl _⟩, ⟨Kd.C_nil _ _, Nat.le_refl _⟩, ⟨Kd.C_nil _ _, Nat.le_refl _⟩, hB⟩
theorem impl_choicesOf_1.calls' (k : Nat) (g : Nat) (Ao : Option Addr) (co : Nat) (o : List Int) (A : Option Addr) (c : Nat) (x : List Int) (r : Bool) (w6 W W2 : World) (h1 : Below w6.heap.size w6 W) (h2 : Below W.heap.size W W2) (hx : Kd.C (Kd.int .i64) W2 A x.length x) (hcx : x.length ≤ c) (ho : Kd.C (Kd.int .i64) w6 Ao o.length o) (hco : o.length ≤ co) (hg : w6.cell? ⟨g, 0, none⟩ = some (.slice Ao o.length co)) (h : slices_Equal_int64_int64.f k x o = some r) :
    Calls Try.prog 53 (#[.slice A x.length c] ++ #[.pointer (some ⟨g, 0, none⟩)]) W2 fun e w' => e = .returned (.bool r) ∧ Below W.heap.size W w' := by
  have h3 : Below w6.heap.size w6 W2 := below_step h1 h2
  refine (impl_choicesOf_1.calls k g Ao co o A c x r W2 hx hcx (Kd.C_below ho h3) hco ((h3.cell (World.block_lt_of_cell? w6 _ hg)).trans hg) h).mono ?_
  rintro e w' ⟨rfl, hb⟩
  exact ⟨rfl, below_step h2 hb⟩
set_option maxHeartbeats 8000000 in
set_option maxRecDepth 100000 in
theorem impl_choicesOf.calls (k : Nat) (A0 : Option Addr) (c0 : Nat) (l0 : List S66) (A1 : Option Addr) (c1 : Nat) (l1 : List Int) (a2 a3 : Int) (B O C : List (List Int)) (r : Int) (w : World) (hr0 : Kd.C k66 w A0 l0.length l0) (hc0 : l0.length ≤ c0) (hr1 : Kd.C (Kd.int .i64) w A1 l1.length l1) (hc1 : l1.length ≤ c1) (h : impl_choicesOf.f k l0 l1 a2 a3 = some (B, O, C, r)) :
    Calls Try.prog 27 #[.slice A0 l0.length c0, .slice A1 l1.length c1, .int .i64 a2, .int .i64 a3] w fun e w' => chP w w' e B O C r := by
  have HR0 := Aside0.mk hr0
  have HC0 := Aside0.mk hc0
  have HR1 := Aside0.mk hr1
  have HC1 := Aside0.mk hc1
  clear hr0 hc0 hr1 hc1
  unfold impl_choicesOf.f at h
  obtain ⟨c, hc, H⟩ := Option.bind_eq_some_iff.mp h
  clear h
  have V0 := Aside0.mk hc
  clear hc
  by_cases hc : c = 0
  · subst hc
    rw [if_pos rfl] at H
    by_cases h3 : 0 ≤ a3 ∧ a3 ≤ 32
    · rw [if_pos h3] at H
      obtain ⟨B', hB, H⟩ := Option.bind_eq_some_iff.mp H
      by_cases ok : B'.length ≤ 1000 ∧ ch_eqs k B' = true
      · rw [if_pos ok] at H
        obtain ⟨us, hus, H⟩ := Option.bind_eq_some_iff.mp H
        obtain ⟨C', hC, H⟩ := Option.bind_eq_some_iff.mp H
        simp only [Option.some.injEq, Prod.mk.injEq] at H
        obtain ⟨rfl, rfl, rfl, rfl⟩ := H
        have FB := Aside0.mk hB
        have FU := Aside0.mk hus
        have FC := Aside0.mk hC
        have OK := Aside0.mk ok
        clear hB hus hC ok
        have C3 := Aside0.mk (ch_within a3 0 32 true (decide_eq_true h3))
        go_enter Try.func27, Try.ntmps27
        go_wp2_with (first | ((with_reducible refine gate_dst (N := 8) rfl ?_); refine box_event ?hg (N := 8) ?hd (cs := #[.slice none 0 0, .slice none 0 0, .slice none 0 0]) (t := 51) ?hr ?_; (case hd => rfl); (case hg => rfl); (case hr => first | (go_simp; done) | (go_simp; rfl)); intro gb hg wB hbox hb; have HB := Aside0.mk (below_step (by repeat (first | exact Below.refl _ _ | apply below_alloc | apply pw_below_drewN | apply below_drew1)) hb); have GE : Aside0 (w.heap.size ≤ gb) := ⟨by rw [hg]; exact (below_size (by repeat (first | exact Below.refl _ _ | apply below_alloc | apply pw_below_drewN | apply below_drew1)))⟩; have BK := Aside0.mk hbox; clear hb hg hbox) | fail)
        refine (impl_themeCode.calls k A0 c0 l0 A1 c1 l1 a2 0 _ (Kd.C_below HR0.out (by repeat (first | exact HB.out | apply pw_below_drewN | apply below_drew1))) HC0.out (Kd.C_below HR1.out (by repeat (first | exact HB.out | apply pw_below_drewN | apply below_drew1))) HC1.out V0.out).mono ?_
        rintro e w2 ⟨rfl, hb_⟩
        have HB2 : Aside0 (Below w.heap.size w w2) := ⟨below_then (by repeat (first | exact HB.out | apply pw_below_drewN | apply below_drew1)) (by exact HB.out.size) hb_⟩
        have BK2 := Aside0.mk (blk_below BK.out hb_)
        clear hb_ BK HB
        dsimp only
        go_wp2_with (fail)
        refine (impl_within.calls a3 0 32 true _ C3.out).mono ?_
        rintro e w3 ⟨rfl, ⟨nd3, rfl⟩⟩
        dsimp only
        go_wp2_with (fail)
        refine (impl_blocksOf.calls A1 c1 l1 a2 B' _ (Kd.C_below HR1.out (by repeat (first | exact HB2.out | apply pw_below_drewN | apply below_drew1))) HC1.out FB.out).mono ?_
        rintro e w4 ⟨vb, rfl, hSB, hb_⟩
        have HB4 : Aside0 (Below w.heap.size w w4) := ⟨below_then (by repeat (first | exact HB2.out | apply pw_below_drewN | apply below_drew1)) (by exact HB2.out.size) hb_⟩
        have BK4 := Aside0.mk (blk_below (show (w2.drewN nd3).heap[gb]? = _ from BK2.out) hb_)
        have GLT : Aside0 (gb < w2.heap.size) := ⟨blk_lt BK2.out⟩
        have SB := Aside0.mk (show Kd.S (Kd.slice 2 (Kd.int .i64)) 25 w4 w2.heap.size (fun _ => True) vb B' from hSB)
        clear hb_ BK2 HB2 hSB
        obtain ⟨Ab, cb, rfl⟩ := Kd.S_slice SB.out
        have HBC := Aside0.mk (Kd.S_reads' SB.out)
        dsimp only
        go_upto_region 7 with (first | ((with_reducible refine gate_dst (N := 11) rfl ?_); refine box_event ?hg (N := 11) ?hd (cs := #[.slice none 0 0, .slice none 0 0, .slice none 0 0]) (t := 51) ?hr ?_; (case hd => rfl); (case hg => rfl); (case hr => first | (go_simp; done) | (go_simp; rfl)); intro gc hg wC hbox hb; have HB4C := Aside0.mk (below_step HB4.out hb); have BW4 : Aside0 (Below w4.heap.size w4 wC) := ⟨hb⟩; have GE4 : Aside0 (w4.heap.size ≤ gc) := ⟨by rw [hg]; exact Nat.le_refl _⟩; have BKC := Aside0.mk hbox; clear hb hg hbox; have hc0_ : wC.cell? ⟨gc, 0, none⟩ = some (.slice none 0 0) := (blk_cell BKC.out 0).trans rfl; have hc1_ : wC.cell? ⟨gc, 1, none⟩ = some (.slice none 0 0) := (blk_cell BKC.out 1).trans rfl; have hc2_ : wC.cell? ⟨gc, 2, none⟩ = some (.slice none 0 0) := (blk_cell BKC.out 2).trans rfl; have hf0_ := blk_frozen BKC.out 0; have hf1_ := blk_frozen BKC.out 1; have hf2_ := blk_frozen BKC.out 2) | fail)
        have hX := ch_put3 (x := .slice Ab B'.length cb) (y := .slice none 0 0) (z := .slice none 0 0) BKC.out
        have HXB : Aside0 (Below w4.heap.size w4 (((wC.setCell ⟨gc, 0, none⟩ (.slice Ab B'.length cb)).setCell ⟨gc, 1, none⟩ (.slice none 0 0)).setCell ⟨gc, 2, none⟩ (.slice none 0 0))) := ⟨by repeat (first | exact BW4.out | refine below_set ?_ GE4.out)⟩
        clear hc0_ hc1_ hc2_ hf0_ hf1_ hf2_ BKC BW4
        generalize (((wC.setCell ⟨gc, 0, none⟩ (.slice Ab B'.length cb)).setCell ⟨gc, 1, none⟩ (.slice none 0 0)).setCell ⟨gc, 2, none⟩ (.slice none 0 0)) = w5 at hX HXB ⊢
        have HG := Aside0.mk hX
        clear hX HB4C
        have hcz := (blk_cell HG.out 0).trans rfl
        have CB : Aside0 (Kd.C (Kd.slice 2 (Kd.int .i64)) w4 Ab B'.length B') := ⟨HBC.out.2.2⟩
        have CL : Aside0 (Kd.C k66 w4 A0 l0.length l0) := ⟨Kd.C_below HR0.out HB4.out⟩
        have hBl := OK.out.1
        go_wp2_with (fail)
        clear hcz
        go_loopg [41] B'.length (fun gg v41 wr => ∃ (kk : Nat) (ov : Value), kk ≤ B'.length ∧ B'.length - kk ≤ gg ∧ v41 = .int .i64 kk ∧ Aside0 (wr.heap[gc]? = some (.cells #[.slice Ab B'.length cb, ov, .slice none 0 0] 51 (0, 0))) ∧ Aside0 (Kd.S (Kd.slice 2 (Kd.int .i64)) 25 wr w4.heap.size (fun _ => True) ov (ch_opts B' us kk)) ∧ Aside0 (Below w4.heap.size w4 wr))
        case atStart => exact ⟨0, .slice none 0 0, by omega, by omega, rfl, HG, ⟨Kd.S_nil _ _ _ _ _⟩, HXB⟩
        case round =>
          obtain ⟨kk, ov, hkk, hg, rfl, HG, HO_5, HB⟩ := hrel
          by_cases hlt : kk < B'.length
          · have hltz : (kk : Int) < (B'.length : Int) := by omega
            obtain ⟨ad, Ak, ck, e1, hc, hlk, hCk⟩ := ch_at CB.out kk hlt
            cases e1
            replace hc := (HB.out.cell (World.block_lt_of_cell? w4 _ hc)).trans hc
            generalize hbk : B'.getD kk [] = bk at hc hlk hCk
            have BKE := Aside0.mk hbk
            have CK := Aside0.mk hCk
            clear hbk
            have hcz : wr.cell? ⟨gc, 0, none⟩ = some (.slice (some ad) B'.length cb) := (blk_cell HG.out 0).trans rfl
            have LK := Aside0.mk hlk
            clear hlk hCk
            go_wp2_with (fail)
            clear hcz hc
            go_loopg [14, 48] B'.length (fun gg2 v14 v48 wi => ∃ (ii : Nat), ii ≤ B'.length ∧ B'.length - ii ≤ gg2 ∧ v48 = .int .i64 ii ∧ Aside0 (wi.heap[gc]? = some (.cells #[.slice (some ad) B'.length cb, ov, .slice none 0 0] 51 (0, 0))) ∧ Aside0 (Kd.S (Kd.slice 2 (Kd.int .i64)) 25 wi w4.heap.size (fun k_ => some k_ ≠ (v14 : Value).ownBlock) ov (ch_opts B' us kk)) ∧ Aside0 (Kd.R (Kd.int .i64) 2 wi w4.heap.size (fun _ => True) v14 (ch_opt B' us kk ii)) ∧ Aside0 (Below w4.heap.size w4 wi))
            case atStart => exact ⟨0, by omega, by omega, rfl, HG, ⟨Kd.S_mono HO_5.out (fun _ _ => by simp [Value.ownBlock])⟩, ⟨Kd.R_nil _ _ _ _ _⟩, HB⟩
            case round =>
              clear HG HO_5 HB
              obtain ⟨ii, hii, hg2, rfl, HG, HO_5, HO_7, HB⟩ := hrel
              by_cases hli : ii < B'.length
              · have hliz : (ii : Int) < (B'.length : Int) := by omega
                obtain ⟨ad2, Ai, ci, e2, hc, hl_i, hC_i⟩ := ch_at CB.out ii hli
                have e3 := Option.some.inj e2
                subst e3
                replace hc := (HB.out.cell (World.block_lt_of_cell? w4 _ hc)).trans hc
                generalize hoi : B'.getD ii [] = o at hc hl_i hC_i
                have OE := Aside0.mk hoi
                clear hoi
                have hcz : wr.cell? ⟨gc, 0, none⟩ = some (.slice (some ad) B'.length cb) := (blk_cell HG.out 0).trans rfl
                have hcap : B'.length ≤ cb := HBC.out.2.1
                have CI := Aside0.mk hC_i
                have LI := Aside0.mk hl_i
                clear hC_i hl_i e2
                go_upto_region 14 with (first | (go_loud ((with_reducible refine gate_dst (N := 16) rfl ?_); refine box_event ?hg (N := 16) ?hd (cs := #[.slice none 0 0]) (t := 25) ?hr ?_; (case hd => rfl); (case hg => rfl); (case hr => first | (go_simp; done) | (go_simp; rfl)); intro gx hg wX hbox hb; have BX : Aside0 (Below wr.heap.size wr wX) := ⟨hb⟩; have GX : Aside0 (wr.heap.size ≤ gx) := ⟨by rw [hg]; exact Nat.le_refl _⟩; have BKX := Aside0.mk hbox; clear hb hg hbox; have hx0_ : wX.cell? ⟨gx, 0, none⟩ = some (.slice none 0 0) := (blk_cell BKX.out 0).trans rfl; have hfx_ := blk_frozen BKX.out 0)) | fail)
                have BX6 : Aside0 (Below wr.heap.size wr (wX.setCell ⟨gx, 0, none⟩ (.slice Ai o.length ci))) := ⟨below_set BX.out GX.out⟩
                have BKX6 := Aside0.mk (blk_put (cs' := #[.slice Ai o.length ci]) BKX.out 0 (.slice Ai o.length ci) rfl)
                clear hx0_ hfx_ BX BKX hcz hc
                generalize wX.setCell ⟨gx, 0, none⟩ (.slice Ai o.length ci) = w6 at BX6 BKX6 ⊢
                have n0_ := Aside0.mk (blk_below HG.out BX6.out)
                have n1_ := Aside0.mk (Kd.S_below HO_5.out BX6.out)
                have n2_ := Aside0.mk (Kd.R_below HO_7.out BX6.out)
                have n3_ := Aside0.mk (below_step HB.out BX6.out)
                clear HG HO_5 HO_7 HB BX6
                have HG := n0_
                have HO_5 := n1_
                have HO_7 := n2_
                have HB := n3_
                clear n0_ n1_ n2_ n3_
                have hcz : w6.cell? ⟨gc, 0, none⟩ = some (.slice (some ad) B'.length cb) := (blk_cell HG.out 0).trans rfl
                have hcx : w6.cell? ⟨gx, 0, none⟩ = some (.slice Ai o.length ci) := (blk_cell BKX6.out 0).trans rfl
                have HCX := Aside0.mk hcx
                have hcap : B'.length ≤ cb := HBC.out.2.1
                have hCI : Kd.C (Kd.int .i64) w6 Ai o.length o := Kd.C_below CI.out HB.out
                have CI6 := Aside0.mk hCI
                have hct := fun (W : World) (hW : Below w6.heap.size w6 W) => slices_ContainsFunc_R.calls 53 #[.pointer (some ⟨gx, 0, none⟩)] (fun x => decide (x = o)) (enters_of (P := Try.prog) Try.func53 (by kernel_rfl) rfl) (some ad) cb (B'.take ii) W (Kd.C_take (Kd.C_below CB.out (below_step HB.out hW)) (by omega))
                  (fun W2 A2 c2 x hx hB2 hC2 hc2 => impl_choicesOf_1.calls' k gx Ai ci o A2 c2 x (decide (x = o)) w6 W W2 hW hB2 hC2 hc2 CI6.out LI.out HCX.out (by
                    have h1 := OK.out.2
                    unfold ch_eqs at h1
                    rw [List.all_eq_true] at h1
                    have h2 := h1 x (List.mem_of_mem_take hx)
                    rw [List.all_eq_true] at h2
                    have h4 := h2 o (by rw [← OE.out, getDR _ _ hli]; exact List.getElem_mem hli)
                    exact of_decide_eq_true h4))
                rw [List.length_take, Nat.min_eq_left hii] at hct
                have CT := Aside0.mk hct
                clear hct hCI hcx
                have hui := ch_units_get FU.out ii hli
                have huk := ch_units_get FU.out kk hlt
                rw [OE.out] at hui
                rw [BKE.out] at huk
                have UI := Aside0.mk hui
                have UK := Aside0.mk huk
                clear hui huk
                have hpk : ch_pick B' us kk ii = (!((B'.take ii).any fun x => decide (x = o)) && decide (us.getD ii 0 = us.getD kk 0)) := by rw [← OE.out]; rfl
                have PK := Aside0.mk hpk
                clear hpk
                generalize hq : ((B'.take ii).any fun x => decide (x = o)) = q at CT PK
                clear hq
                go_wp2_with (fail)
                refine (CT.out _ (Below.refl _ _)).mono ?_
                rintro e w7 ⟨rfl, hb_⟩
                have hcx : w7.cell? ⟨gx, 0, none⟩ = some (.slice Ai o.length ci) := (hb_.cell (World.block_lt_of_cell? w6 _ HCX.out)).trans HCX.out
                have n0_ := Aside0.mk (blk_below HG.out hb_)
                have n1_ := Aside0.mk (Kd.S_below HO_5.out hb_)
                have n2_ := Aside0.mk (Kd.R_below HO_7.out hb_)
                have n3_ := Aside0.mk (below_step HB.out hb_)
                clear HG HO_5 HO_7 HB
                have HG := n0_
                have HO_5 := n1_
                have HO_7 := n2_
                have HB := n3_
                clear n0_ n1_ n2_ n3_
                clear hb_ hcz CT HCX BKX6 CI6
                dsimp only
                cases q with
                | true =>
                  have hpk : ch_opt B' us kk (ii + 1) = ch_opt B' us kk ii := ch_opt_no (by rw [PK.out]; rfl)
                  have HPK := Aside0.mk hpk
                  clear hpk
                  go_wp2_with (fail)
                  go_roundg (B'.length - (ii + 1))
                  case measure => omega
                  case rel => exact ⟨ii + 1, by omega, by omega, by go_num, HG, HO_5, ⟨by rw [HPK.out]; exact HO_7.out⟩, HB⟩
                | false =>
                  by_cases heq : us.getD ii 0 = us.getD kk 0
                  · have hpk : ch_opt B' us kk (ii + 1) = ch_opt B' us kk ii ++ [(ii : Int)] := ch_opt_yes (by rw [PK.out, decide_eq_true heq]; rfl)
                    have HPK := Aside0.mk hpk
                    clear hpk
                    generalize us.getD ii 0 = ui at UI heq
                    generalize us.getD kk 0 = uk at UK heq
                    have hbq : (ui == uk) = true := beq_iff_eq.mpr heq
                    go_wp2_with (fail)
                    refine (impl_unitsOfComposed.calls k A0 c0 l0 Ai ci o ui _ (Kd.C_below CL.out HB.out) HC0.out (Kd.C_below CI.out HB.out) LI.out UI.out).mono ?_
                    rintro e w8 ⟨rfl, ⟨nd8, rfl⟩⟩
                    dsimp only
                    go_wp2_with (fail)
                    refine (impl_unitsOfComposed.calls k A0 c0 l0 Ak ck bk uk _ (Kd.C_drewN (Kd.C_below CL.out HB.out) _) HC0.out (Kd.C_drewN (Kd.C_below CK.out HB.out) _) LK.out UK.out).mono ?_
                    rintro e w9 ⟨rfl, ⟨nd9, rfl⟩⟩
                    dsimp only
                    go_wp2_with (first | (go_loud ((with_reducible refine gate_builtin (b := .append) (xs := #[.tmp 70, .tmp 72]) rfl ?_); at_builtin; refine Kd.R_append (Kd.int .i64) (w0 := w4) w4.heap.size rfl (.tmp 70) (.tmp 72) 25 2 (.int .i64 0) 8 rfl Try.underlying25 ch_info2 rfl (by decide) (by omega) u14 (ch_opt B' us kk ii) (ii : Int) [.int .i64 (ii : Int)] (fun _ => True) (fun _ => False) rfl rfl ?aP (fun _ hk => hk.elim) ?aF ?aO ?aB ?aS ?aL ?_; (case aP => exact rfl); (case aB => exact (by repeat (first | exact HB.out | apply below_alloc | apply pw_below_drewN | apply below_drew1))); (case aF => exact (fun _ _ => trivial)); (case aO => exact (by exact HO_7.out)); (case aS => exact (below_size (by repeat (first | exact HB.out | apply below_alloc | apply pw_below_drewN | apply below_drew1)))); (case aL => have := ch_opt_len B' us kk ii; omega); intro v233 w23 ho hb hg hat; have n0_ := Aside0.mk (Kd.S_after (ok := (fun _ => True)) (by exact Kd.S_mono HO_5.out (fun _ hk => ⟨trivial, hk⟩)) hg hat); have n1_ := Aside0.mk (hb); have n2_ := Aside0.mk (ho); have n3_ := Aside0.mk (ch_keepG (by (with_reducible repeat (first | refine blk_drewN ?_ _ | refine blk_drew ?_ | refine blk_alloc ?_ _)); exact HG.out) (by exact HO_7.out) hg); clear HO_5; clear HB; clear HO_7; clear HG; have HO_5 := n0_; have HB := n1_; have HO_7 := n2_; have HG := n3_; clear n0_ n1_ n2_ n3_; clear ho hb hg hat)) | fail)
                    go_roundg (B'.length - (ii + 1))
                    case measure => omega
                    case rel => exact ⟨ii + 1, by omega, by omega, by go_num, HG, ⟨Kd.S_mono HO_5.out (fun _ hk => hk.2)⟩, ⟨by rw [HPK.out]; exact HO_7.out⟩, HB⟩
                  · have hpk : ch_opt B' us kk (ii + 1) = ch_opt B' us kk ii := ch_opt_no (by rw [PK.out, decide_eq_false heq]; rfl)
                    have HPK := Aside0.mk hpk
                    clear hpk
                    generalize us.getD ii 0 = ui at UI heq
                    generalize us.getD kk 0 = uk at UK heq
                    have hbq : (ui == uk) = false := beq_eq_false_iff_ne.mpr heq
                    go_wp2_with (fail)
                    refine (impl_unitsOfComposed.calls k A0 c0 l0 Ai ci o ui _ (Kd.C_below CL.out HB.out) HC0.out (Kd.C_below CI.out HB.out) LI.out UI.out).mono ?_
                    rintro e w8 ⟨rfl, ⟨nd8, rfl⟩⟩
                    dsimp only
                    go_wp2_with (fail)
                    refine (impl_unitsOfComposed.calls k A0 c0 l0 Ak ck bk uk _ (Kd.C_drewN (Kd.C_below CL.out HB.out) _) HC0.out (Kd.C_drewN (Kd.C_below CK.out HB.out) _) LK.out UK.out).mono ?_
                    rintro e w9 ⟨rfl, ⟨nd9, rfl⟩⟩
                    dsimp only
                    go_wp2_with (fail)
                    go_roundg (B'.length - (ii + 1))
                    case measure => omega
                    case rel => exact ⟨ii + 1, by omega, by omega, by go_num, HG, HO_5, ⟨by rw [HPK.out]; exact HO_7.out⟩, ⟨by repeat (first | exact HB.out | apply pw_below_drewN)⟩⟩
              · have hjj : ii = B'.length := by omega
                subst hjj
                have hF : decide ((B'.length : Int) < (B'.length : Int)) = false := decide_eq_false (by omega)
                obtain ⟨A2, c2, e14⟩ := Kd.R_slice HO_7.out
                have hcz : wr.cell? ⟨gc, 1, none⟩ = some ov := (blk_cell HG.out 1).trans rfl
                subst e14
                go_wp2_with (first | (go_loud ((with_reducible refine gate_builtin (b := .append) (xs := #[.tmp 76, .tmp 78]) rfl ?_); at_builtin; refine Kd.S_append (Kd.slice 2 (Kd.int .i64)) (w0 := w4) w4.heap.size rfl (.tmp 76) (.tmp 78) 49 25 (.slice none 0 0) 24 rfl Try.underlying49 ch_info25 rfl (by decide) (by omega) ov (ch_opts B' us kk) (ch_opt B' us kk B'.length) [.slice A2 (ch_opt B' us kk B'.length).length c2] (fun _ => True) (fun k_ => some k_ = (.slice A2 (ch_opt B' us kk B'.length).length c2 : Value).ownBlock) rfl rfl ?aP (fun k_ hk_ => ((Kd.R_mono (ok' := fun k_ => ((fun _ => True)) k_ ∧ some k_ ≠ (ov : Value).ownBlock) (Kd.R_apart' (HO_7.out) (Kd.S_typed HO_5.out) (by decide)) (fun k_ hk => ⟨trivial, hk.2⟩))).1 k_ hk_.symm) ?aF ?aO ?aB ?aS ?aL ?_; (case aP => exact Kd.M_row (Kd.R_mono (Kd.R_tight rfl (Kd.R_mono (ok' := fun k_ => ((fun _ => True)) k_ ∧ some k_ ≠ (ov : Value).ownBlock) (Kd.R_apart' (HO_7.out) (Kd.S_typed HO_5.out) (by decide)) (fun k_ hk => ⟨trivial, hk.2⟩))) (fun _ h_ => h_))); (case aB => exact (by repeat (first | exact HB.out | apply below_alloc | apply pw_below_drewN | apply below_drew1))); (case aF => exact (fun _ _ => trivial)); (case aO => exact (by exact Kd.S_mono HO_5.out (fun k_ hk => ⟨trivial, fun e_ => hk e_⟩))); (case aS => exact (below_size (by repeat (first | exact HB.out | apply below_alloc | apply pw_below_drewN | apply below_drew1)))); (case aL => have := ch_opts_len B' us kk; omega); intro v223 w25 ho hb hg hat; have n0_ := Aside0.mk (hb); have n1_ := Aside0.mk (ho); have n2_ := Aside0.mk (ch_keepS (by (with_reducible repeat (first | refine blk_drewN ?_ _ | refine blk_drew ?_ | refine blk_alloc ?_ _)); exact HG.out) (Kd.S_typed HO_5.out) hg); clear HB; clear HO_5; clear HO_7; clear HG; have HB := n0_; have HO_5 := n1_; have HG := n2_; clear n0_ n1_ n2_; clear ho hb hg hat; obtain ⟨A3, c3, eA3⟩ := Kd.S_slice HO_5.out; rw [List.length_append, List.length_singleton] at eA3; subst eA3; have hcy1 : w25.cell? ⟨gc, 1, none⟩ = some ov := (blk_cell HG.out 1).trans rfl; have hfy1 := blk_frozen HG.out 1)) | fail)
                go_roundg (B'.length - (kk + 1))
                case measure => omega
                case rel => exact ⟨kk + 1, _, by omega, by omega, by go_num, ⟨blk_put HG.out 1 _ rfl⟩, ⟨by rw [ch_opts_succ]; exact Kd.S_set HO_5.out HG.out (by decide) 1 _⟩, ⟨HB.out.setCell (p := ⟨gc, 1, none⟩) GE4.out _⟩⟩
          · have hjj : kk = B'.length := by omega
            subst hjj
            have hF : decide ((B'.length : Int) < (B'.length : Int)) = false := decide_eq_false (by omega)
            have hcz : wr.cell? ⟨gc, 0, none⟩ = some (.slice Ab B'.length cb) := (blk_cell HG.out 0).trans rfl
            have hcy : wr.cell? ⟨gc, 2, none⟩ = some (.slice none 0 0) := (blk_cell HG.out 2).trans rfl
            have hfy := blk_frozen HG.out 2
            go_upto_region 20 with (fail)
            obtain ⟨Ao, co, eov⟩ := Kd.S_slice HO_5.out
            have hol := ch_opts_len B' us B'.length
            rw [hol] at eov
            subst eov
            obtain ⟨M, hM⟩ : ∃ M : Nat, a3 = (M : Int) := ⟨a3.toNat, by omega⟩
            subst hM
            have FC2 := FC.out
            rw [Int.toNat_natCast] at FC2
            have FD := Aside0.mk FC2
            clear FC2 FC
            have hM32 : M ≤ 32 := by omega
            obtain ⟨i24, hi24, hz24, hs24, hb24⟩ := info_parts ch_info25
            obtain ⟨i2, hi2, hz2, hs2, hb2⟩ := info_parts ch_info2
            have hmk1 : ∀ (W : World), (Instr.makeSlice 49 (.int .i64 ((B'.length : Int) + 1)) (.int .i64 ((B'.length : Int) + 1))).run Try.prog W = .ok (.slice (some ⟨W.heap.size, 0, none⟩) (B'.length + 1) (B'.length + 1)) (W.alloc (.cells (Go.madeCells #[.slice none 0 0] (B'.length + 1)) 25)) := by
              intro W
              rw [run_make (P := Try.prog) W 49 25 i24 (.slice none 0 0) Try.underlying49 hi24 hz24 .i64 .i64 ((B'.length : Int) + 1) ((B'.length : Int) + 1) (by omega) (by omega) (by rw [hb24]; omega) (by omega)]
              have e : ((B'.length : Int) + 1).toNat = B'.length + 1 := by omega
              rw [e, hs24, Nat.mul_one]
              rfl
            have hmk2 : ∀ (W : World), (Instr.makeSlice 25 (.int .i64 ((M : Int) + 1)) (.int .i64 ((M : Int) + 1))).run Try.prog W = .ok (.slice (some ⟨W.heap.size, 0, none⟩) (M + 1) (M + 1)) (W.alloc (.cells ((List.replicate (M + 1) (0 : Int)).map (Value.int .i64)).toArray 2)) := by
              intro W
              rw [run_make (P := Try.prog) W 25 2 i2 (.int .i64 0) Try.underlying25 hi2 hz2 .i64 .i64 ((M : Int) + 1) ((M : Int) + 1) (by omega) (by omega) (by rw [hb2]; omega) (by omega)]
              have e : ((M : Int) + 1).toNat = M + 1 := by omega
              rw [e, hs2, Nat.mul_one, ← ch_made]
              rfl
            clear hi24 hz24 hs24 hb24 hi2 hz2 hs2 hb2
            obtain ⟨wE, hwE⟩ : ∃ x : World, x = wr := ⟨_, rfl⟩
            subst hwE
            have gy : ∀ o : Obj, (wE.alloc o).cell? ⟨gc, 2, none⟩ = some (.slice none 0 0) := fun o => (blk_cell (blk_alloc HG.out o) 2).trans rfl
            have gfy : ∀ o : Obj, (wE.alloc o).frozen? ⟨gc, 2, none⟩ = false := fun o => blk_frozen (blk_alloc HG.out o) 2
            go_upto_region 21 with (fail)
            have GCLT : Aside0 (gc < wE.heap.size) := ⟨blk_lt HG.out⟩
            have hAs := chA_start (lo := w4.heap.size) (M := M) (N := B'.length + 1) (W := wE) HB.out.size
            have hA1 : chA w4.heap.size M wE.heap.size (B'.length + 1) (Go.madeCells #[.slice none 0 0] (B'.length + 1)) (List.replicate (B'.length + 1) []) ((wE.alloc (.cells (Go.madeCells #[.slice none 0 0] (B'.length + 1)) 25)).setCell ⟨gc, 2, none⟩ (.slice (some ⟨wE.heap.size, 0, none⟩) (B'.length + 1) (B'.length + 1))) := ch_far hAs (blk_alloc HG.out _)
            have hG1 : ((wE.alloc (.cells (Go.madeCells #[.slice none 0 0] (B'.length + 1)) 25)).setCell ⟨gc, 2, none⟩ (.slice (some ⟨wE.heap.size, 0, none⟩) (B'.length + 1) (B'.length + 1))).heap[gc]? = some (.cells #[.slice Ab B'.length cb, .slice Ao B'.length co, .slice (some ⟨wE.heap.size, 0, none⟩) (B'.length + 1) (B'.length + 1)] 51 (0, 0)) := blk_put (blk_alloc HG.out _) 2 _ rfl
            have hF1 : ∀ q, q < wE.heap.size → q ≠ gc → ((wE.alloc (.cells (Go.madeCells #[.slice none 0 0] (B'.length + 1)) 25)).setCell ⟨gc, 2, none⟩ (.slice (some ⟨wE.heap.size, 0, none⟩) (B'.length + 1) (B'.length + 1))).heap[q]? = wE.heap[q]? := fun q h1 h2 => by rw [Below.heap_setCell _ _ _ _ h2, Below.heap_alloc _ _ _ h1]
            have hB1 : Below w4.heap.size w4 ((wE.alloc (.cells (Go.madeCells #[.slice none 0 0] (B'.length + 1)) 25)).setCell ⟨gc, 2, none⟩ (.slice (some ⟨wE.heap.size, 0, none⟩) (B'.length + 1) (B'.length + 1))) := below_set (below_alloc HB.out _) GE4.out
            generalize ((wE.alloc (.cells (Go.madeCells #[.slice none 0 0] (B'.length + 1)) 25)).setCell ⟨gc, 2, none⟩ (.slice (some ⟨wE.heap.size, 0, none⟩) (B'.length + 1) (B'.length + 1))) = wD at hA1 hG1 hF1 hB1 ⊢
            have SO := Aside0.mk HO_5.out
            have FF := Aside0.mk hF1
            have CA := Aside0.mk hA1
            have HB3 := Aside0.mk hB1
            have HGW := Aside0.mk HG.out
            clear HB HG HO_5 hAs
            have HG := Aside0.mk hG1
            have HB := HB3
            clear hA1 hG1 hF1 hB1 gy gfy hcz hcy hfy HB3
            obtain ⟨cc, hccd⟩ : ∃ x : Nat, x = wE.heap.size := ⟨_, rfl⟩
            rw [← hccd] at CA HG FF
            have CCE := Aside0.mk hccd
            clear hccd
            have hcz : wD.cell? ⟨gc, 0, none⟩ = some (.slice Ab B'.length cb) := (blk_cell HG.out 0).trans rfl
            generalize Go.madeCells #[.slice none 0 0] (B'.length + 1) = arr0 at CA
            go_wp2_with (fail)
            clear hcz
            go_loopg [18] (B'.length + 1) (fun gg v18 wi => ∃ (s : Nat) (CL : List (List Int)) (arr : Array Value), s ≤ B'.length + 1 ∧ s ≤ gg ∧ v18 = .int .i64 ((s : Int) - 1) ∧ Aside0 (ch_out k B' (ch_opts B' us B'.length) M s CL = some C') ∧ Aside0 (chA w4.heap.size M cc (B'.length + 1) arr CL wi) ∧ Aside0 (wi.heap[gc]? = some (.cells #[.slice Ab B'.length cb, .slice Ao B'.length co, .slice (some ⟨cc, 0, none⟩) (B'.length + 1) (B'.length + 1)] 51 (0, 0))) ∧ Aside0 (∀ q, q < cc → q ≠ gc → wi.heap[q]? = wE.heap[q]?) ∧ Aside0 (Below w4.heap.size w4 wi))
            case atStart => exact ⟨B'.length + 1, _, arr0, by omega, by omega, by congr 1; omega, FD, CA, HG, FF, HB⟩
            case round =>
              clear FD CA HG FF HB
              obtain ⟨s, CL, arr, hs, hg3, rfl, FD, CA, HG, FF, HB⟩ := hrel
              by_cases hs0 : 0 < s
              · obtain ⟨kk, rfl⟩ : ∃ q : Nat, s = q + 1 := ⟨s - 1, by omega⟩
                have ei : ((kk + 1 : Nat) : Int) - 1 = (kk : Int) := by omega
                rw [ei]
                have hi0 : decide (0 ≤ (kk : Int)) = true := decide_eq_true (by omega)
                have hcz : wr.cell? ⟨gc, 2, none⟩ = some (.slice (some ⟨cc, 0, none⟩) (B'.length + 1) (B'.length + 1)) := (blk_cell HG.out 2).trans rfl
                go_upto_region 24 with (fail)
                clear hcz
                have hkB : kk < B'.length + 1 := by omega
                have gq : ∀ o : Obj, (wr.alloc o).cell? ⟨gc, 2, none⟩ = some (.slice (some ⟨cc, 0, none⟩) (B'.length + 1) (B'.length + 1)) := fun o => (blk_cell (blk_alloc HG.out o) 2).trans rfl
                have hq : wr.cell? ⟨gc, 2, none⟩ = some (.slice (some ⟨cc, 0, none⟩) (B'.length + 1) (B'.length + 1)) := (blk_cell HG.out 2).trans rfl
                have gqc : ∀ o : Obj, (wr.alloc o).cell? ⟨cc, kk, none⟩ = arr[kk]? := fun o => blk_cell (blk_alloc CA.out.hc o) kk
                have gqf : ∀ o : Obj, (wr.alloc o).frozen? ⟨cc, kk, none⟩ = false := fun o => blk_frozen (blk_alloc CA.out.hc o) kk
                obtain ⟨vk, hvk⟩ : ∃ v, arr[kk]? = some v := let ⟨v, h1, _⟩ := CA.out.row kk hkB; ⟨v, h1⟩
                rw [hvk] at gqc
                go_region
                have HNW := chA_drew (chA_new (M := M) CA.out hkB HB.out.size)
                rw [ch_rep] at HNW
                have hccl : cc < wr.heap.size := blk_lt CA.out.hc
                have hccg : gc < cc := by rw [CCE.out]; exact GCLT.out
                have hcc4 : w4.heap.size ≤ cc := CA.out.lc
                have hGn : ((wr.alloc (.cells (Array.replicate (M + 1) (.int .i64 0)) 2)).setCell ⟨cc, kk, none⟩ (.slice (some ⟨wr.heap.size, 0, none⟩) (M + 1) (M + 1))).drew.heap[gc]? = some (.cells #[.slice Ab B'.length cb, .slice Ao B'.length co, .slice (some ⟨cc, 0, none⟩) (B'.length + 1) (B'.length + 1)] 51 (0, 0)) := (Below.heap_setCell _ _ _ _ (by show gc ≠ cc; omega)).trans (blk_alloc HG.out _)
                have hFn : ∀ q, q < cc → q ≠ gc → ((wr.alloc (.cells (Array.replicate (M + 1) (.int .i64 0)) 2)).setCell ⟨cc, kk, none⟩ (.slice (some ⟨wr.heap.size, 0, none⟩) (M + 1) (M + 1))).drew.heap[q]? = wE.heap[q]? := fun q h1 h2 => (Below.heap_setCell _ _ _ _ (by show q ≠ cc; omega)).trans ((Below.heap_alloc _ _ _ (by omega)).trans (FF.out q h1 h2))
                have hBn : Below w4.heap.size w4 ((wr.alloc (.cells (Array.replicate (M + 1) (.int .i64 0)) 2)).setCell ⟨cc, kk, none⟩ (.slice (some ⟨wr.heap.size, 0, none⟩) (M + 1) (M + 1))).drew := below_drew (below_set (below_alloc HB.out _) hcc4)
                have hsp := fun j hj hne => chA_sep (M := M) (u := .slice (some ⟨wr.heap.size, 0, none⟩) (M + 1) (M + 1)) CA.out (j := j) (kk := kk) hj hne
                have har : (arr.setIfInBounds kk (.slice (some ⟨wr.heap.size, 0, none⟩) (M + 1) (M + 1)))[kk]? = some (.slice (some ⟨wr.heap.size, 0, none⟩) (M + 1) (M + 1)) := by rw [Array.getElem?_setIfInBounds, if_pos rfl, if_pos (by rw [CA.out.sz]; exact hkB)]
                generalize ((wr.alloc (.cells (Array.replicate (M + 1) (.int .i64 0)) 2)).setCell ⟨cc, kk, none⟩ (.slice (some ⟨wr.heap.size, 0, none⟩) (M + 1) (M + 1))).drew = wn at HNW hGn hFn hBn ⊢
                generalize wr.heap.size = b at HNW hsp har hccl
                generalize arr.setIfInBounds kk (.slice (some ⟨b, 0, none⟩) (M + 1) (M + 1)) = arr1 at HNW hsp har
                have FD2 := FD.out
                unfold ch_out at FD2
                obtain ⟨C2, hin, hout⟩ := Option.bind_eq_some_iff.mp FD2
                clear FD2 FD CA HG FF HB gq hq gqc gqf hvk
                have FO := Aside0.mk hout
                have FI : Aside0 (ch_in k B' (ch_opts B' us B'.length) kk (M + 1 - 0) 0 (CL.set kk (List.replicate (M + 1) 0)) = some C2) := ⟨hin⟩
                have CA := Aside0.mk HNW
                have HG := Aside0.mk hGn
                have FF := Aside0.mk hFn
                have HB := Aside0.mk hBn
                have SEP := Aside0.mk hsp
                have AR := Aside0.mk har
                have CB4 := Aside0.mk hcc4
                clear hin hout HNW hGn hFn hBn hsp har hcc4
                go_wp2_with (fail)
                go_loopg [104] (M + 1) (fun gg v104 wi => ∃ (m : Nat) (C1 : List (List Int)), m ≤ M + 1 ∧ M + 1 - m ≤ gg ∧ v104 = .int .i64 (m : Int) ∧ Aside0 (ch_in k B' (ch_opts B' us B'.length) kk (M + 1 - m) m C1 = some C2) ∧ Aside0 (chA w4.heap.size M cc (B'.length + 1) arr1 C1 wi) ∧ Aside0 (wi.heap[gc]? = some (.cells #[.slice Ab B'.length cb, .slice Ao B'.length co, .slice (some ⟨cc, 0, none⟩) (B'.length + 1) (B'.length + 1)] 51 (0, 0))) ∧ Aside0 (∀ q, q < cc → q ≠ gc → wi.heap[q]? = wE.heap[q]?) ∧ Aside0 (Below w4.heap.size w4 wi))
                case atStart => exact ⟨0, _, by omega, by omega, rfl, FI, CA, HG, FF, HB⟩
                case round =>
                  clear FI CA HG FF HB
                  obtain ⟨m, C1, hm, hg4, rfl, FI, CA, HG, FF, HB⟩ := hrel
                  by_cases hlt : m < M + 1
                  · have hmM : decide ((m : Int) < (M : Int) + 1) = true := decide_eq_true (by omega)
                    obtain ⟨d, hd⟩ : ∃ d : Nat, M + 1 - m = d + 1 := ⟨M - m, by omega⟩
                    have FI2 := FI.out
                    rw [hd] at FI2
                    unfold ch_in at FI2
                    obtain ⟨v, hv, hin⟩ := Option.bind_eq_some_iff.mp FI2
                    clear FI2 FI
                    have FI := Aside0.mk hin
                    have FV := Aside0.mk hv
                    clear hin hv
                    go_upto_region 28 with (fail)
                    have hSO := Kd.S_reads' (Kd.S_move (Kd.S_bound SO.out) (w1 := wr) (fun q hq => by
                      obtain ⟨_, h1, h2, q', hq', cells, hc'⟩ := hq
                      refine FF.out q (by rw [CCE.out]; exact h2) (fun e => ?_)
                      subst e
                      rw [HGW.out] at hc'
                      simp only [Option.some.injEq, Obj.cells.injEq] at hc'
                      have := hc'.2.1
                      subst this
                      revert hq'
                      decide))
                    have hcall := impl_choices_count.calls k Ab cb B' Ao co (ch_opts B' us B'.length) (some ⟨cc, 0, none⟩) (B'.length + 1) C1 (kk : Int) (m : Int) v wr.drew (Kd.C_drew (Kd.C_below CB.out HB.out)) HBC.out.2.1 (Kd.C_drew hSO.2.2) (by rw [hol]; exact hSO.2.1) (Kd.C_drew (chA_C CA.out (by omega) (by omega))) (by rw [CA.out.len]; exact Nat.le_refl _) FV.out
                    rw [hol, CA.out.len] at hcall
                    have HCALL := Aside0.mk hcall
                    clear hcall hSO
                    have hcb := chA_cells CA.out AR.out hkB hlt
                    obtain ⟨x, hx, hxf, hxk⟩ := hcb
                    have f0 : wr.cell? ⟨gc, 0, none⟩ = some (.slice Ab B'.length cb) := (blk_cell HG.out 0).trans rfl
                    have f1 : wr.cell? ⟨gc, 1, none⟩ = some (.slice Ao B'.length co) := (blk_cell HG.out 1).trans rfl
                    have f2 : wr.cell? ⟨gc, 2, none⟩ = some (.slice (some ⟨cc, 0, none⟩) (B'.length + 1) (B'.length + 1)) := (blk_cell HG.out 2).trans rfl
                    have FX := Aside0.mk hx
                    have FXF := Aside0.mk hxf
                    have hkz : ((kk : Int) < (B'.length : Int) + 1) = True := eq_true (by omega)
                    have hmz : ((m : Int) < (M : Int) + 1) = True := eq_true (by omega)
                    clear hx hxf
                    refine start_ (n := 12) (S := fun w' => w'.cell? ⟨gc, 0, none⟩ = some (.slice Ab B'.length cb) ∧ w'.cell? ⟨gc, 1, none⟩ = some (.slice Ao B'.length co) ∧ w'.cell? ⟨gc, 2, none⟩ = some (.slice (some ⟨cc, 0, none⟩) (B'.length + 1) (B'.length + 1)) ∧ w'.cell? ⟨cc, kk, none⟩ = some (.slice (some ⟨b, 0, none⟩) (M + 1) (M + 1))) (ds := [11]) #[false, false, false, false, false, false, false, false, false, false, false, false] (by kernel_rfl) rfl rfl ⟨f0, f1, f2, hxk⟩ (fun hHeld => ?_)
                    refine with_tabW impl_choicesOf.tab28 impl_choicesOf.bits28 (fun HT_ HW_ => ?_)
                    refine pure_ (i := 0) (N := some 107) (v := ?_) (a' := ?_) #[true, false, false, false, false, false, false, false, false, false, false, false] rfl rfl (any_of HT_.out (by kernel_rfl)) (fun _ _ _ h => h) (Or.inl ⟨by rfl, ?_⟩) ?_ ?_
                    rotate_left
                    · intro w'
                      go_simp
                      with_reducible rfl
                    rotate_left
                    · simp only [Act.put, List.setIfInBounds_toArray, List.set_cons_zero, List.set_cons_succ, i64_w, i32_w]
                      rfl
                    refine take_ (i := 1) (N := some 108) (v := ?_) (a' := ?_) #[true, true, false, false, false, false, false, false, false, false, false, false] rfl rfl (take_ofW HT_.out HW_.out (by kernel_rfl)) (fun _ _ _ h => h) (Or.inl ⟨by rfl, ?_⟩) hHeld ?_ ?_
                    rotate_left
                    · rintro w' ⟨s0, s1, s2, s3⟩
                      go_simp
                      with_reducible rfl
                    rotate_left
                    · simp only [Act.put, List.setIfInBounds_toArray, List.set_cons_zero, List.set_cons_succ, i64_w, i32_w]
                      rfl
                    refine pure_ (i := 2) (N := some 109) (v := ?_) (a' := ?_) #[true, true, true, false, false, false, false, false, false, false, false, false] rfl rfl (any_of HT_.out (by kernel_rfl)) (fun _ _ _ h => h) (Or.inl ⟨by rfl, ?_⟩) ?_ ?_
                    rotate_left
                    · intro w'
                      go_simp
                      with_reducible rfl
                    rotate_left
                    · simp only [Act.put, List.setIfInBounds_toArray, List.set_cons_zero, List.set_cons_succ, i64_w, i32_w]
                      rfl
                    refine pure_ (i := 3) (N := some 110) (v := ?_) (a' := ?_) #[true, true, true, true, false, false, false, false, false, false, false, false] rfl rfl (any_of HT_.out (by kernel_rfl)) (fun _ _ _ h => h) (Or.inl ⟨by rfl, ?_⟩) ?_ ?_
                    rotate_left
                    · intro w'
                      go_simp
                      with_reducible rfl
                    rotate_left
                    · simp only [Act.put, List.setIfInBounds_toArray, List.set_cons_zero, List.set_cons_succ, i64_w, i32_w]
                      rfl
                    refine take_ (i := 4) (N := some 111) (v := ?_) (a' := ?_) #[true, true, true, true, true, false, false, false, false, false, false, false] rfl rfl (take_ofW HT_.out HW_.out (by kernel_rfl)) (fun _ _ _ h => h) (Or.inl ⟨by rfl, ?_⟩) hHeld ?_ ?_
                    rotate_left
                    · rintro w' ⟨s0, s1, s2, s3⟩
                      go_simp
                      with_reducible rfl
                    rotate_left
                    · simp only [Act.put, List.setIfInBounds_toArray, List.set_cons_zero, List.set_cons_succ, i64_w, i32_w]
                      rfl
                    refine pure_ (i := 5) (N := some 112) (v := ?_) (a' := ?_) #[true, true, true, true, true, true, false, false, false, false, false, false] rfl rfl (any_of HT_.out (by kernel_rfl)) (fun _ _ _ h => h) (Or.inl ⟨by rfl, ?_⟩) ?_ ?_
                    rotate_left
                    · intro w'
                      go_simp
                      with_reducible rfl
                    rotate_left
                    · simp only [Act.put, List.setIfInBounds_toArray, List.set_cons_zero, List.set_cons_succ, i64_w, i32_w]
                      rfl
                    refine take_ (i := 6) (N := some 113) (v := ?_) (a' := ?_) #[true, true, true, true, true, true, true, false, false, false, false, false] rfl rfl (take_ofW HT_.out HW_.out (by kernel_rfl)) (fun _ _ _ h => h) (Or.inl ⟨by rfl, ?_⟩) hHeld ?_ ?_
                    rotate_left
                    · rintro w' ⟨s0, s1, s2, s3⟩
                      go_simp
                      with_reducible rfl
                    rotate_left
                    · simp only [Act.put, List.setIfInBounds_toArray, List.set_cons_zero, List.set_cons_succ, i64_w, i32_w]
                      rfl
                    refine pure_ (i := 7) (N := some 114) (v := ?_) (a' := ?_) #[true, true, true, true, true, true, true, true, false, false, false, false] rfl rfl (any_of HT_.out (by kernel_rfl)) (fun _ _ _ h => h) (Or.inl ⟨by rfl, ?_⟩) ?_ ?_
                    rotate_left
                    · intro w'
                      go_simp
                      with_reducible rfl
                    rotate_left
                    · simp only [Act.put, List.setIfInBounds_toArray, List.set_cons_zero, List.set_cons_succ, i64_w, i32_w]
                      rfl
                    refine pure_ (i := 8) (N := some 115) (v := ?_) (a' := ?_) #[true, true, true, true, true, true, true, true, true, false, false, false] rfl rfl (any_of HT_.out (by kernel_rfl)) (fun _ _ _ h => h) (Or.inl ⟨by rfl, ?_⟩) ?_ ?_
                    rotate_left
                    · intro w'
                      go_simp
                      with_reducible rfl
                    rotate_left
                    · simp only [Act.put, List.setIfInBounds_toArray, List.set_cons_zero, List.set_cons_succ, i64_w, i32_w]
                      rfl
                    refine one_ (i := 9) (N := some 116) #[true, true, true, true, true, true, true, true, true, true, false, false] rfl rfl (one_of HT_.out (by kernel_rfl)) (by decide) (fun K hK => ?_)
                    refine goes_ Try.func56 (by kernel_rfl) rfl #[.agg #[.slice Ab B'.length cb, .slice Ao B'.length co, .slice (some ⟨cc, 0, none⟩) (B'.length + 1) (B'.length + 1)], .int .i64 (kk : Int), .int .i64 (m : Int)] (by rfl) rfl rfl (by (try simp only [List.map_toArray, List.map_cons, List.map_nil]); first | done | rfl) ?_
                    refine HCALL.out.mono ?_
                    rintro e w7 ⟨rfl, hb7⟩
                    have hk7 : ∀ p v, wr.cell? p = some v → w7.cell? p = some v := fun p v e => (hb7.cell (World.block_lt_of_cell? wr.drew _ e)).trans e
                    have B7 := Aside0.mk hb7
                    refine ⟨_, rfl, ?_⟩
                    refine hK.out _ _ ⟨hk7 _ _ f0, hk7 _ _ f1, hk7 _ _ f2, hk7 _ _ hxk⟩ (fun hHeld => ?_)
                    have hA7 := chA_below (chA_drew CA.out) hb7
                    obtain ⟨x7, hxs, hxg, _⟩ := chA_cells hA7 AR.out hkB hlt
                    have CA7 := Aside0.mk hA7
                    clear hK K HCALL hk7 hb7 hA7
                    refine norm_ (a' := ?_) ?_ ?_
                    rotate_left
                    · show Act.put _ (some 116) _ = _
                      simp only [Act.put, List.setIfInBounds_toArray, List.set_cons_zero, List.set_cons_succ, i64_w, i32_w]
                      rfl
                    refine pure_ (i := 10) (N := some 117) (v := ?_) (a' := ?_) #[true, true, true, true, true, true, true, true, true, true, true, false] rfl rfl (any_of HT_.out (by kernel_rfl)) (fun _ _ _ h => h) (Or.inl ⟨by rfl, ?_⟩) ?_ ?_
                    rotate_left
                    · intro w'
                      go_simp
                      with_reducible rfl
                    rotate_left
                    · simp only [Act.put, List.setIfInBounds_toArray, List.set_cons_zero, List.set_cons_succ, i64_w, i32_w]
                      rfl
                    refine last_ (i := 11) (N := none) #[true, true, true, true, true, true, true, true, true, true, true, true] rfl rfl (one_of HT_.out (by kernel_rfl)) (by decide) (fun K hK => ?_)
                    refine skip_ (w1 := ?_) (by rfl) rfl ?_ ?_
                    rotate_left
                    · go_simp
                      rfl
                    refine hK.out _ _ ?_
                    refine done_ (done_of HT_.out (by kernel_rfl)) ?_
                    clear hHeld f0 f1 f2 hxk hxs hxg hK
                    go_wp2_with (fail)
                    go_roundg (M + 1 - (m + 1))
                    case measure => omega
                    case rel =>
                      have hbw : b < w7.heap.size := chA_blt CA7.out AR.out hkB
                      have hbb := chA_row CA7.out AR.out hkB
                      have hlo := CB4.out
                      have hG7 : w7.heap[gc]? = _ := blk_below (show wr.drew.heap[gc]? = _ from HG.out) B7.out
                      have hbg : gc ≠ b := fun e => by
                        subst e
                        rw [hG7] at hbb
                        simp at hbb
                      refine ⟨m + 1, C1.set kk ((C1.getD kk []).set m v), by omega, by omega, by go_num, ⟨?_⟩, ⟨chA_set CA7.out hkB AR.out SEP.out (by omega)⟩, ⟨(Below.heap_setCell _ _ _ _ hbg).trans hG7⟩, ⟨fun q h1 h2 => (Below.heap_setCell _ _ _ _ (by show q ≠ b; omega)).trans ((B7.out.block q (by have := blk_lt CA.out.hc; show q < wr.heap.size; omega)).trans (FF.out q h1 h2))⟩, ⟨below_set (below_step (below_drew HB.out) B7.out) (by show w4.heap.size ≤ b; omega)⟩⟩
                      rw [show M + 1 - (m + 1) = d by omega]
                      exact FI.out
                  · have hmm : m = M + 1 := by omega
                    subst hmm
                    have hmM : decide (((M + 1 : Nat) : Int) < (M : Int) + 1) = false := decide_eq_false (by omega)
                    go_wp2_with (fail)
                    go_roundg kk
                    case measure => omega
                    case rel =>
                      have eC : C1 = C2 := by simpa [ch_in] using FI.out
                      subst eC
                      exact ⟨kk, C1, arr1, by omega, by omega, by go_num, FO, CA, HG, FF, HB⟩
              · have hs00 : s = 0 := by omega
                subst hs00
                have ei : ((0 : Nat) : Int) - 1 = -1 := by omega
                rw [ei]
                have hn0 : decide (0 ≤ (-1 : Int)) = false := decide_eq_false (by omega)
                have BKW : wr.heap[gb]? = some (.cells #[.slice none 0 0, .slice none 0 0, .slice none 0 0] 51 (0, 0)) := blk_below BK4.out HB.out
                have BKZ := Aside0.mk BKW
                have hz0_ : wr.cell? ⟨gb, 0, none⟩ = some (.slice none 0 0) := (blk_cell BKZ.out 0).trans rfl
                have hz1_ : wr.cell? ⟨gb, 1, none⟩ = some (.slice none 0 0) := (blk_cell BKZ.out 1).trans rfl
                have hz2_ : wr.cell? ⟨gb, 2, none⟩ = some (.slice none 0 0) := (blk_cell BKZ.out 2).trans rfl
                have hf0_ := blk_frozen BKZ.out 0
                have hf1_ := blk_frozen BKZ.out 1
                have hf2_ := blk_frozen BKZ.out 2
                have hcz0 : wr.cell? ⟨gc, 0, none⟩ = some (.slice Ab B'.length cb) := (blk_cell HG.out 0).trans rfl
                have hcz1 : wr.cell? ⟨gc, 1, none⟩ = some (.slice Ao B'.length co) := (blk_cell HG.out 1).trans rfl
                have hcz2 : wr.cell? ⟨gc, 2, none⟩ = some (.slice (some ⟨cc, 0, none⟩) (B'.length + 1) (B'.length + 1)) := (blk_cell HG.out 2).trans rfl
                clear BKW
                go_wp2_with (fail)
                clear hz0_ hz1_ hz2_ hf0_ hf1_ hf2_ hcz0 hcz1 hcz2
                refine bodyPost_ret (v := .tuple #[.agg #[.slice Ab B'.length cb, .slice Ao B'.length co, .slice (some ⟨cc, 0, none⟩) (B'.length + 1) (B'.length + 1)], .int .i64 0]) ?hrD rfl ?hpD
                case hrD =>
                  refine (ch_res (fn := Try.f27) (p := 8) (u := 9) (ty := 51) rfl _ _ gb #[.slice Ab B'.length cb, .slice Ao B'.length co, .slice (some ⟨cc, 0, none⟩) (B'.length + 1) (B'.length + 1)] ?hpE (ch_load rfl (ch_put3 BKZ.out))).trans ?hqE
                  case hpE => rfl
                  case hqE => rfl
                case hpD =>
                  have hsz3 : ∀ (X : World) (a : Addr) (v : Value), (X.setCell a v).heap.size = X.heap.size := fun X a v => by simp [World.setCell]
                  have hne : ∀ (X : World) q, q ≠ gb → ∀ x y z, (((X.setCell ⟨gb, 0, none⟩ x).setCell ⟨gb, 1, none⟩ y).setCell ⟨gb, 2, none⟩ z).heap[q]? = X.heap[q]? := fun X q h x y z => by rw [Below.heap_setCell _ _ _ _ h, Below.heap_setCell _ _ _ _ h, Below.heap_setCell _ _ _ _ h]
                  have hBw : Below w.heap.size w wr := below_then HB4.out HB4.out.size HB.out
                  have hg4 := GLT.out
                  have h24 := HB4.out.size
                  have eC : CL = C' := by simpa [ch_out] using FD.out
                  subst eC
                  have hCl := CA.out.len
                  have hw4 := blk_lt BK4.out
                  have hcc4 := CA.out.lc
                  have hcw : wr.heap[cc]? = _ := CA.out.hc
                  have hS1 := Kd.S_reads' (Kd.S_move (Kd.S_bound SB.out) (w1 := ((wr.setCell ⟨gb, 0, none⟩ (.slice Ab B'.length cb)).setCell ⟨gb, 1, none⟩ (.slice Ao B'.length co)).setCell ⟨gb, 2, none⟩ (.slice (some ⟨cc, 0, none⟩) (B'.length + 1) (B'.length + 1))) (fun q hq => by rw [hne _ _ (by have := hq.2.1; omega)]; exact HB.out.block q hq.2.2.1))
                  have hS2 := Kd.S_reads' (Kd.S_move (Kd.S_bound SO.out) (w1 := ((wr.setCell ⟨gb, 0, none⟩ (.slice Ab B'.length cb)).setCell ⟨gb, 1, none⟩ (.slice Ao B'.length co)).setCell ⟨gb, 2, none⟩ (.slice (some ⟨cc, 0, none⟩) (B'.length + 1) (B'.length + 1))) (fun q hq => by
                    obtain ⟨_, h1, h2, q', hq', cells, hc'⟩ := hq
                    rw [hne _ _ (by omega)]
                    refine FF.out q (by rw [CCE.out]; exact h2) (fun e => ?_)
                    subst e
                    rw [HGW.out] at hc'
                    simp only [Option.some.injEq, Obj.cells.injEq] at hc'
                    have := hc'.2.1
                    subst this
                    revert hq'
                    decide))
                  have hA2 := chA_C (chA_move CA.out (W1 := ((wr.setCell ⟨gb, 0, none⟩ (.slice Ab B'.length cb)).setCell ⟨gb, 1, none⟩ (.slice Ao B'.length co)).setCell ⟨gb, 2, none⟩ (.slice (some ⟨cc, 0, none⟩) (B'.length + 1) (B'.length + 1))) (fun q h1 _ => hne _ _ (by omega) _ _ _) (by rw [hsz3, hsz3, hsz3]; exact Nat.le_refl _)) (by omega) (by omega)
                  refine ⟨Ab, cb, Ao, co, some ⟨cc, 0, none⟩, B'.length + 1, by rw [hCl, hol], ⟨hS1.2.2, hS1.2.1⟩, ⟨hS2.2.2, by rw [hol]; exact hS2.2.1⟩, ⟨hA2, by omega⟩, below_set (below_set (below_set hBw GE.out) GE.out) GE.out⟩
      · rw [if_neg ok] at H
        exact absurd H (by simp)
    · rw [if_neg h3] at H
      simp only [Option.some.injEq, Prod.mk.injEq] at H
      obtain ⟨rfl, rfl, rfl, rfl⟩ := H
      have C3 := Aside0.mk (ch_within a3 0 32 false (decide_eq_false h3))
      go_enter Try.func27, Try.ntmps27
      go_wp2_with (first | ((with_reducible refine gate_dst (N := 8) rfl ?_); refine box_event ?hg (N := 8) ?hd (cs := #[.slice none 0 0, .slice none 0 0, .slice none 0 0]) (t := 51) ?hr ?_; (case hd => rfl); (case hg => rfl); (case hr => first | (go_simp; done) | (go_simp; rfl)); intro gb hg wB hbox hb; have HB := Aside0.mk (below_step (by repeat (first | exact Below.refl _ _ | apply below_alloc | apply pw_below_drewN | apply below_drew1)) hb); have GE : Aside0 (w.heap.size ≤ gb) := ⟨by rw [hg]; exact (below_size (by repeat (first | exact Below.refl _ _ | apply below_alloc | apply pw_below_drewN | apply below_drew1)))⟩; have BK := Aside0.mk hbox; clear hb hg hbox) | fail)
      refine (impl_themeCode.calls k A0 c0 l0 A1 c1 l1 a2 0 _ (Kd.C_below HR0.out (by repeat (first | exact HB.out | apply pw_below_drewN | apply below_drew1))) HC0.out (Kd.C_below HR1.out (by repeat (first | exact HB.out | apply pw_below_drewN | apply below_drew1))) HC1.out V0.out).mono ?_
      rintro e w2 ⟨rfl, hb_⟩
      have HB2 : Aside0 (Below w.heap.size w w2) := ⟨below_then (by repeat (first | exact HB.out | apply pw_below_drewN | apply below_drew1)) (by exact HB.out.size) hb_⟩
      have BK2 := Aside0.mk (blk_below BK.out hb_)
      clear hb_ BK HB
      dsimp only
      go_wp2_with (fail)
      refine (impl_within.calls a3 0 32 false _ C3.out).mono ?_
      rintro e w3 ⟨rfl, ⟨nd3, rfl⟩⟩
      dsimp only
      have hz0_ : (w2.drewN nd3).cell? ⟨gb, 0, none⟩ = some (.slice none 0 0) := (blk_cell BK2.out 0).trans rfl
      have hf0_ : (w2.drewN nd3).frozen? ⟨gb, 0, none⟩ = false := blk_frozen BK2.out 0
      have hz1_ : (w2.drewN nd3).cell? ⟨gb, 1, none⟩ = some (.slice none 0 0) := (blk_cell BK2.out 1).trans rfl
      have hf1_ : (w2.drewN nd3).frozen? ⟨gb, 1, none⟩ = false := blk_frozen BK2.out 1
      have hz2_ : (w2.drewN nd3).cell? ⟨gb, 2, none⟩ = some (.slice none 0 0) := (blk_cell BK2.out 2).trans rfl
      have hf2_ : (w2.drewN nd3).frozen? ⟨gb, 2, none⟩ = false := blk_frozen BK2.out 2
      go_wp2_with (fail)
      refine ch_err ?hr rfl ?hb
      case hr =>
        refine (ch_res (fn := Try.f27) (p := 8) (u := 9) (ty := 51) rfl _ _ gb #[.slice none 0 0, .slice none 0 0, .slice none 0 0] ?hp (ch_load rfl (ch_put3 (blk_drewN BK2.out nd3)))).trans ?hq
        case hp => rfl
        case hq => rfl
      case hb => exact (by repeat (first | exact HB2.out | apply pw_below_drewN | apply below_drew1 | refine below_set ?_ GE.out))
  · rw [if_neg hc] at H
    simp only [Option.some.injEq, Prod.mk.injEq] at H
    obtain ⟨rfl, rfl, rfl, rfl⟩ := H
    have d1 : (c == 0) = false := beq_eq_false_iff_ne.mpr hc
    have d2 : (c != 0) = true := bne_iff_ne.mpr hc
    go_enter Try.func27, Try.ntmps27
    go_wp2_with (first | (go_loud ((with_reducible refine gate_dst (N := 8) rfl ?_); refine box_event ?hg (N := 8) ?hd (cs := #[.slice none 0 0, .slice none 0 0, .slice none 0 0]) (t := 51) ?hr ?_; (case hd => rfl); (case hg => rfl); (case hr => first | (go_simp; done) | (go_simp; rfl)); intro gb hg wB hbox hb; have HB := Aside0.mk (below_step (by repeat (first | exact Below.refl _ _ | apply below_alloc | apply pw_below_drewN | apply below_drew1)) hb); have GE : Aside0 (w.heap.size ≤ gb) := ⟨by rw [hg]; exact (below_size (by repeat (first | exact Below.refl _ _ | apply below_alloc | apply pw_below_drewN | apply below_drew1)))⟩; have BK := Aside0.mk hbox; clear hb hg hbox)) | fail)
    refine (impl_themeCode.calls k A0 c0 l0 A1 c1 l1 a2 c _ (Kd.C_below HR0.out (by repeat (first | exact HB.out | apply pw_below_drewN | apply below_drew1))) HC0.out (Kd.C_below HR1.out (by repeat (first | exact HB.out | apply pw_below_drewN | apply below_drew1))) HC1.out V0.out).mono ?_
    rintro e w2 ⟨rfl, hb_⟩
    have HB2 : Aside0 (Below w.heap.size w w2) := ⟨below_then (by repeat (first | exact HB.out | apply pw_below_drewN | apply below_drew1)) (by exact HB.out.size) hb_⟩
    have BK2 := Aside0.mk (blk_below BK.out hb_)
    clear hb_ BK HB
    dsimp only
    have hz0_ : (w2).cell? ⟨gb, 0, none⟩ = some (.slice none 0 0) := (blk_cell BK2.out 0).trans rfl
    have hf0_ : (w2).frozen? ⟨gb, 0, none⟩ = false := blk_frozen BK2.out 0
    have hz1_ : (w2).cell? ⟨gb, 1, none⟩ = some (.slice none 0 0) := (blk_cell BK2.out 1).trans rfl
    have hf1_ : (w2).frozen? ⟨gb, 1, none⟩ = false := blk_frozen BK2.out 1
    have hz2_ : (w2).cell? ⟨gb, 2, none⟩ = some (.slice none 0 0) := (blk_cell BK2.out 2).trans rfl
    have hf2_ : (w2).frozen? ⟨gb, 2, none⟩ = false := blk_frozen BK2.out 2
    go_wp2_with (fail)
    refine ch_err ?hr rfl ?hb
    case hr =>
      refine (ch_res (fn := Try.f27) (p := 8) (u := 9) (ty := 51) rfl _ _ gb #[.slice none 0 0, .slice none 0 0, .slice none 0 0] ?hp (ch_load rfl (ch_put3 BK2.out))).trans ?hq
      case hp => rfl
      case hq => rfl
    case hb => exact (by repeat (first | exact HB2.out | apply pw_below_drewN | apply below_drew1 | refine below_set ?_ GE.out))

end Go.Proofs.Ytidbcglhpaamdaa.PFnVariants
