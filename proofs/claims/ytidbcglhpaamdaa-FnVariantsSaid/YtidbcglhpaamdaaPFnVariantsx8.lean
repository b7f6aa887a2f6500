-- written by xprint.py, a program of this repo over the kit's print; not trusted: Lean checks it
import Derived.Test.YtidbcglhpaamdaaPFnVariantsx0
import Derived.Test.YtidbcglhpaamdaaPFnVariantsx3
import Derived.Test.YtidbcglhpaamdaaPFnVariantsx6
import Derived.Test.YtidbcglhpaamdaaPFnVariantsx7
namespace Go.Proofs.Ytidbcglhpaamdaa.PFnVariants
open Go.RowKit Go.Proofs.YtidbcglhpaamdaaW.PrintWords Go.Proofs.YtidbcglhpaamdaaW.PrintLast Go.Proofs.YtidbcglhpaamdaaW.PrintMore
attribute [local go_sem] max2_int min2_int max_two min_two max_three min_three max_four min_four   -- for this text's walks alone
set_option linter.unusedVariables false
set_option linter.unusedSimpArgs false

/-! ### impl_CountVariations: function 8, by hand -/
def impl_CountVariations.f (k : Nat) (l0 : List S66) (l1 : List Int) (a2 a3 : Int) : Option (Int × Int) := (impl_choicesOf.f k l0 l1 a2 a3).bind fun t => if t.2.2.2 = 0 then (if 0 ≤ a3 ∧ 0 < t.2.2.1.length ∧ a3 < ((t.2.2.1.getD 0 []).length : Int) then (if 20000 < rd (t.2.2.1.getD 0 []) a3 then some (0, 5) else some (rd (t.2.2.1.getD 0 []) a3, 0)) else none) else some (0, t.2.2.2)
theorem impl_CountVariations.mono : ∀ a0 a1 a2 a3 k, LeO (impl_CountVariations.f k a0 a1 a2 a3) (impl_CountVariations.f (k + 1) a0 a1 a2 a3) := by
  intro a0 a1 a2 a3 k
  unfold impl_CountVariations.f
  exact LeO.bind (impl_choicesOf.mono _ _ _ _ _) (fun _ => LeO.refl _)
set_option maxHeartbeats 4000000 in
set_option maxRecDepth 100000 in
theorem impl_CountVariations.calls (k : Nat) (A0 : Option Addr) (c0 : Nat) (l0 : List S66) (A1 : Option Addr) (c1 : Nat) (l1 : List Int) (a2 a3 : Int) (r1 r2 : Int) (w : World) (hr0 : Kd.C k66 w A0 l0.length l0) (hc0 : l0.length ≤ c0) (hr1 : Kd.C (Kd.int .i64) w A1 l1.length l1) (hc1 : l1.length ≤ c1) (h : impl_CountVariations.f k l0 l1 a2 a3 = some (r1, r2)) :
    Calls Try.prog 8 #[.slice A0 l0.length c0, .slice A1 l1.length c1, .int .i64 a2, .int .i64 a3] w fun e w' => e = .returned (.tuple #[.int .i64 r1, .int .i64 r2]) ∧ Below w.heap.size w w' := by
  have HR0 := Aside0.mk hr0
  have HC0 := Aside0.mk hc0
  have HR1 := Aside0.mk hr1
  have HC1 := Aside0.mk hc1
  clear hr0 hc0 hr1 hc1
  unfold impl_CountVariations.f at h
  obtain ⟨⟨B, O, C, c⟩, hv, H⟩ := Option.bind_eq_some_iff.mp h
  clear h
  have V0 := Aside0.mk hv
  clear hv
  dsimp only at H
  go_enter Try.func8, Try.ntmps8
  go_wp2_with (fail)
  refine (impl_choicesOf.calls k A0 c0 l0 A1 c1 l1 a2 a3 B O C c _ (by first | exact HR0.out | exact Kd.C_drew HR0.out) HC0.out (by first | exact HR1.out | exact Kd.C_drew HR1.out) HC1.out V0.out).mono ?_
  rintro e w2 ⟨Ab, cb, Ao, co, Ac, cc, rfl, _, _, hC, hb_⟩
  have HB2 : Aside0 (Below w.heap.size w w2) := ⟨hb_⟩
  have HCC := Aside0.mk hC.1
  clear hb_ hC
  dsimp only
  go_upto_region 2 with (first | ((with_reducible refine gate_dst (N := 10) rfl ?_); refine box_event ?hg (N := 10) ?hd (cs := #[.slice none 0 0, .slice none 0 0, .slice none 0 0]) (t := 51) ?hr ?_; (case hd => rfl); (case hg => rfl); (case hr => first | (go_simp; done) | (go_simp; rfl)); intro gc hg wC hbox hb; have BW : Aside0 (Below w2.heap.size w2 wC) := ⟨hb⟩; have GE : Aside0 (w2.heap.size ≤ gc) := ⟨by rw [hg]; exact Nat.le_refl _⟩; have BKC := Aside0.mk hbox; clear hb hg hbox; have hc0_ : wC.cell? ⟨gc, 0, none⟩ = some (.slice none 0 0) := (blk_cell BKC.out 0).trans rfl; have hc1_ : wC.cell? ⟨gc, 1, none⟩ = some (.slice none 0 0) := (blk_cell BKC.out 1).trans rfl; have hc2_ : wC.cell? ⟨gc, 2, none⟩ = some (.slice none 0 0) := (blk_cell BKC.out 2).trans rfl; have hf0_ := blk_frozen BKC.out 0; have hf1_ := blk_frozen BKC.out 1; have hf2_ := blk_frozen BKC.out 2) | fail)
  have hX := ch_put3 (x := .slice Ab B.length cb) (y := .slice Ao O.length co) (z := .slice Ac C.length cc) BKC.out
  have HXB : Aside0 (Below w2.heap.size w2 (((wC.setCell ⟨gc, 0, none⟩ (.slice Ab B.length cb)).setCell ⟨gc, 1, none⟩ (.slice Ao O.length co)).setCell ⟨gc, 2, none⟩ (.slice Ac C.length cc))) := ⟨below_set (below_set (below_set BW.out GE.out) GE.out) GE.out⟩
  clear hc0_ hc1_ hc2_ hf0_ hf1_ hf2_ BKC BW
  generalize (((wC.setCell ⟨gc, 0, none⟩ (.slice Ab B.length cb)).setCell ⟨gc, 1, none⟩ (.slice Ao O.length co)).setCell ⟨gc, 2, none⟩ (.slice Ac C.length cc)) = w5 at hX HXB ⊢
  have HG := Aside0.mk hX
  have CB : Aside0 (Kd.C (Kd.slice 2 (Kd.int .i64)) w5 Ac C.length C) := ⟨Kd.C_below HCC.out HXB.out⟩
  have HW5 : Aside0 (Below w.heap.size w w5) := ⟨below_then HB2.out HB2.out.size HXB.out⟩
  clear hX HXB
  by_cases hc : c = 0
  · subst hc
    rw [if_pos rfl] at H
    by_cases hb : 0 ≤ a3 ∧ 0 < C.length ∧ a3 < ((C.getD 0 []).length : Int)
    · rw [if_pos hb] at H
      obtain ⟨h1, h2, h3⟩ := hb
      obtain ⟨ad, A2, c2, rfl, hc1, hl1, hC1⟩ := ch_at CB.out 0 h2
      obtain ⟨ad2, rfl, hx⟩ := Kd.at_int hC1 a3 h1 h3
      have hc1 : w5.cell? ad = some _ := (show ad.add 0 = ad by simp [Addr.add]) ▸ hc1
      have hcz : w5.cell? ⟨gc, 2, none⟩ = some (.slice (some ad) C.length cc) := (blk_cell HG.out 2).trans rfl
      have hn : (0 : Int) < (C.length : Int) := by omega
      generalize C.getD 0 [] = row at H h3 hc1 hl1 hC1 hx
      have HC1 := Aside0.mk hC1
      clear hC1
      generalize rd row a3 = v at H hx
      by_cases hv : 20000 < v
      · rw [if_pos hv] at H
        simp only [Option.some.injEq, Prod.mk.injEq] at H
        obtain ⟨rfl, rfl⟩ := H
        have hvd : decide (v > 20000) = true := decide_eq_true hv
        go_wp2_with (fail)
        go_ret2
        exact ⟨rfl, HW5.out⟩
      · rw [if_neg hv] at H
        simp only [Option.some.injEq, Prod.mk.injEq] at H
        obtain ⟨rfl, rfl⟩ := H
        have hvd : decide (v > 20000) = false := decide_eq_false hv
        go_wp2_with (fail)
        go_ret2
        exact ⟨rfl, HW5.out⟩
    · rw [if_neg hb] at H
      cases H
  · rw [if_neg hc] at H
    simp only [Option.some.injEq, Prod.mk.injEq] at H
    obtain ⟨rfl, rfl⟩ := H
    have d1 : (c == 0) = false := beq_eq_false_iff_ne.mpr hc
    have d2 : (c != 0) = true := bne_iff_ne.mpr hc
    go_wp2_with (fail)
    go_ret2
    exact ⟨rfl, HW5.out⟩

/-! ### impl_NumberedVariation: function 9, by hand -/
def nvIn (k : Nat) (B O C : List (List Int)) (kk : Nat) : List Int → List Int → Int → Int → Option (List Int × Int × Int)
  | [], o, m, n => some (o, m, n)
  | i :: is, o, m, n => (impl_choices_left.f k B O C kk i m).bind fun left => if left < 0 then nvIn k B O C kk is o m n else if kk + 1 < C.length ∧ left < ((C.getD (kk + 1) []).length : Int) ∧ 0 ≤ i ∧ i < (B.length : Int) ∧ o.length + (B.getD i.toNat []).length < 1000000 then (if n < rd (C.getD (kk + 1) []) left then some (o ++ B.getD i.toNat [], left, n) else nvIn k B O C kk is o m (wrap64 (n - rd (C.getD (kk + 1) []) left))) else none
def nvOut (k : Nat) (B O C : List (List Int)) : Nat → Nat → List Int → Int → Int → Option (List Int)
  | 0, _, o, _, _ => some o
  | d + 1, kk, o, m, n => if kk < O.length then (nvIn k B O C kk (O.getD kk []) o m n).bind fun s => nvOut k B O C d (kk + 1) s.1 s.2.1 s.2.2 else none
def impl_NumberedVariation.f (k : Nat) (l0 : List S66) (l1 : List Int) (a2 a3 a4 : Int) : Option (List Int × Int) := (impl_choicesOf.f k l0 l1 a2 a3).bind fun t => if t.2.2.2 = 0 then (if 0 ≤ a3 ∧ 0 < t.2.2.1.length ∧ a3 < ((t.2.2.1.getD 0 []).length : Int) ∧ t.1.length ≤ 1000 then (if 20000 < rd (t.2.2.1.getD 0 []) a3 then some ([], 5) else (if 0 ≤ a4 ∧ a4 ≤ wrap64 (rd (t.2.2.1.getD 0 []) a3 - 1) then (nvOut k t.1 t.2.1 t.2.2.1 t.1.length 0 [] a3 a4).bind fun o => some (o, 0) else some ([], 3))) else none) else some ([], t.2.2.2)
theorem nvIn.mono (k : Nat) (B O C : List (List Int)) (kk : Nat) : ∀ is o m n, LeO (nvIn k B O C kk is o m n) (nvIn (k + 1) B O C kk is o m n)
  | [], _, _, _ => LeO.refl _
  | i :: is, o, m, n => by
    unfold nvIn
    exact LeO.bind (impl_choices_left.mono _ _ _ _ _ _ _) (fun _ => LeO.ite (nvIn.mono k B O C kk is _ _ _) (LeO.ite (LeO.ite (LeO.refl _) (nvIn.mono k B O C kk is _ _ _)) (LeO.refl _)))
theorem nvOut.mono (k : Nat) (B O C : List (List Int)) : ∀ d kk o m n, LeO (nvOut k B O C d kk o m n) (nvOut (k + 1) B O C d kk o m n)
  | 0, _, _, _, _ => LeO.refl _
  | d + 1, kk, o, m, n => by
    unfold nvOut
    exact LeO.ite (LeO.bind (nvIn.mono k B O C kk _ _ _ _) (fun _ => nvOut.mono k B O C d _ _ _ _)) (LeO.refl _)
theorem impl_NumberedVariation.mono : ∀ a0 a1 a2 a3 a4 k, LeO (impl_NumberedVariation.f k a0 a1 a2 a3 a4) (impl_NumberedVariation.f (k + 1) a0 a1 a2 a3 a4) := by
  intro a0 a1 a2 a3 a4 k
  unfold impl_NumberedVariation.f
  exact LeO.bind (impl_choicesOf.mono _ _ _ _ _) (fun _ => LeO.ite (LeO.ite (LeO.ite (LeO.refl _) (LeO.ite (LeO.bind (nvOut.mono _ _ _ _ _ _ _ _ _) (fun _ => LeO.refl _)) (LeO.refl _))) (LeO.refl _)) (LeO.refl _))
theorem nvIn_drop (k : Nat) (B O C : List (List Int)) (kk : Nat) (L : List Int) (ii : Nat) (h : ii < L.length) (o : List Int) (m n : Int) : nvIn k B O C kk (L.drop ii) o m n = (impl_choices_left.f k B O C kk (rd L ii) m).bind fun left => if left < 0 then nvIn k B O C kk (L.drop (ii + 1)) o m n else if kk + 1 < C.length ∧ left < ((C.getD (kk + 1) []).length : Int) ∧ 0 ≤ rd L ii ∧ rd L ii < (B.length : Int) ∧ o.length + (B.getD (rd L ii).toNat []).length < 1000000 then (if n < rd (C.getD (kk + 1) []) left then some (o ++ B.getD (rd L ii).toNat [], left, n) else nvIn k B O C kk (L.drop (ii + 1)) o m (wrap64 (n - rd (C.getD (kk + 1) []) left))) else none := by
  have e : rd L (ii : Int) = L[ii] := by unfold rd; rw [Int.toNat_natCast, List.getD_eq_getElem?_getD, List.getElem?_eq_getElem h]; rfl
  rw [List.drop_eq_getElem_cons h, e]
  rfl
theorem nv_within (a b c : Int) (r : Bool) (h : decide (b ≤ a ∧ a ≤ c) = r) : impl_within.f a b c = some r := by
  subst h
  unfold impl_within.f
  split
  · rename_i h
    congr 1
    rw [decide_eq_decide]
    omega
  · rename_i h
    rw [decide_eq_false (by omega)]
theorem nv_info2 : (Try.prog.info? 2).map (fun i => (i.zero, i.size, i.bytes)) = some (some (.int .i64 0), 1, 8) := by kernel_rfl
set_option maxHeartbeats 8000000 in
set_option maxRecDepth 100000 in
theorem impl_NumberedVariation.calls (k : Nat) (A0 : Option Addr) (c0 : Nat) (l0 : List S66) (A1 : Option Addr) (c1 : Nat) (l1 : List Int) (a2 a3 a4 : Int) (r1 : List Int) (r2 : Int) (w : World) (hr0 : Kd.C k66 w A0 l0.length l0) (hc0 : l0.length ≤ c0) (hr1 : Kd.C (Kd.int .i64) w A1 l1.length l1) (hc1 : l1.length ≤ c1) (h : impl_NumberedVariation.f k l0 l1 a2 a3 a4 = some (r1, r2)) :
    Calls Try.prog 9 #[.slice A0 l0.length c0, .slice A1 l1.length c1, .int .i64 a2, .int .i64 a3, .int .i64 a4] w fun e w' => ∃ v0_ : Value, e = .returned (.tuple #[v0_, .int .i64 r2]) ∧ Kd.R (Kd.int .i64) 2 w' w.heap.size (fun _ => True) v0_ r1 ∧ Below w.heap.size w w' := by
  have HR0 := Aside0.mk hr0
  have HC0 := Aside0.mk hc0
  have HR1 := Aside0.mk hr1
  have HC1 := Aside0.mk hc1
  clear hr0 hc0 hr1 hc1
  unfold impl_NumberedVariation.f at h
  obtain ⟨⟨B, O, C, c⟩, hv, H⟩ := Option.bind_eq_some_iff.mp h
  clear h
  have V0 := Aside0.mk hv
  clear hv
  dsimp only at H
  go_enter Try.func9, Try.ntmps9
  go_wp2_with (fail)
  refine (impl_choicesOf.calls k A0 c0 l0 A1 c1 l1 a2 a3 B O C c _ (by first | exact HR0.out | exact Kd.C_drew HR0.out) HC0.out (by first | exact HR1.out | exact Kd.C_drew HR1.out) HC1.out V0.out).mono ?_
  rintro e w2 ⟨Ab, cb, Ao, co, Ac, cc, rfl, hB, hO, hC, hb_⟩
  have HB2 : Aside0 (Below w.heap.size w w2) := ⟨hb_⟩
  have HBC := Aside0.mk hB
  have HOC := Aside0.mk hO
  have HCC := Aside0.mk hC
  clear hb_ hB hO hC
  dsimp only
  go_upto_region 2 with (first | ((with_reducible refine gate_dst (N := 12) rfl ?_); refine box_event ?hg (N := 12) ?hd (cs := #[.slice none 0 0, .slice none 0 0, .slice none 0 0]) (t := 51) ?hr ?_; (case hd => rfl); (case hg => rfl); (case hr => first | (go_simp; done) | (go_simp; rfl)); intro gc hg wC hbox hb; have BW : Aside0 (Below w2.heap.size w2 wC) := ⟨hb⟩; have GE : Aside0 (w2.heap.size ≤ gc) := ⟨by rw [hg]; exact Nat.le_refl _⟩; have BKC := Aside0.mk hbox; clear hb hg hbox; have hc0_ : wC.cell? ⟨gc, 0, none⟩ = some (.slice none 0 0) := (blk_cell BKC.out 0).trans rfl; have hc1_ : wC.cell? ⟨gc, 1, none⟩ = some (.slice none 0 0) := (blk_cell BKC.out 1).trans rfl; have hc2_ : wC.cell? ⟨gc, 2, none⟩ = some (.slice none 0 0) := (blk_cell BKC.out 2).trans rfl; have hf0_ := blk_frozen BKC.out 0; have hf1_ := blk_frozen BKC.out 1; have hf2_ := blk_frozen BKC.out 2) | fail)
  have hX := ch_put3 (x := .slice Ab B.length cb) (y := .slice Ao O.length co) (z := .slice Ac C.length cc) BKC.out
  have HXB : Aside0 (Below w2.heap.size w2 (((wC.setCell ⟨gc, 0, none⟩ (.slice Ab B.length cb)).setCell ⟨gc, 1, none⟩ (.slice Ao O.length co)).setCell ⟨gc, 2, none⟩ (.slice Ac C.length cc))) := ⟨below_set (below_set (below_set BW.out GE.out) GE.out) GE.out⟩
  clear hc0_ hc1_ hc2_ hf0_ hf1_ hf2_ BKC BW
  generalize (((wC.setCell ⟨gc, 0, none⟩ (.slice Ab B.length cb)).setCell ⟨gc, 1, none⟩ (.slice Ao O.length co)).setCell ⟨gc, 2, none⟩ (.slice Ac C.length cc)) = w5 at hX HXB ⊢
  have HG := Aside0.mk hX
  have CB : Aside0 (Kd.C (Kd.slice 2 (Kd.int .i64)) w5 Ab B.length B) := ⟨Kd.C_below HBC.out.1 HXB.out⟩
  have CO : Aside0 (Kd.C (Kd.slice 2 (Kd.int .i64)) w5 Ao O.length O) := ⟨Kd.C_below HOC.out.1 HXB.out⟩
  have CC : Aside0 (Kd.C (Kd.slice 2 (Kd.int .i64)) w5 Ac C.length C) := ⟨Kd.C_below HCC.out.1 HXB.out⟩
  have HW5 : Aside0 (Below w.heap.size w w5) := ⟨below_then HB2.out HB2.out.size HXB.out⟩
  have LB := Aside0.mk HBC.out.2
  have LO := Aside0.mk HOC.out.2
  have LC := Aside0.mk HCC.out.2
  clear hX HXB HBC HOC HCC
  by_cases hc : c = 0
  · subst hc
    rw [if_pos rfl] at H
    by_cases hb : 0 ≤ a3 ∧ 0 < C.length ∧ a3 < ((C.getD 0 []).length : Int) ∧ B.length ≤ 1000
    · rw [if_pos hb] at H
      obtain ⟨h1, h2, h3, hB1000⟩ := hb
      obtain ⟨ad, A2, c2, e0, hc1, hl1, hC1⟩ := ch_at CC.out 0 h2
      subst e0
      obtain ⟨ad2, e1, hx⟩ := Kd.at_int hC1 a3 h1 h3
      subst e1
      have hc1 : w5.cell? ad = some _ := (show ad.add 0 = ad by simp [Addr.add]) ▸ hc1
      have hcz : w5.cell? ⟨gc, 2, none⟩ = some (.slice (some ad) C.length cc) := (blk_cell HG.out 2).trans rfl
      have hn : (0 : Int) < (C.length : Int) := by omega
      generalize C.getD 0 [] = row at H h3 hc1 hl1 hC1 hx
      clear hC1
      generalize rd row a3 = v at H hx
      by_cases hv : 20000 < v
      · rw [if_pos hv] at H
        simp only [Option.some.injEq, Prod.mk.injEq] at H
        obtain ⟨rfl, rfl⟩ := H
        have hvd : decide (v > 20000) = true := decide_eq_true hv
        go_wp2_with (fail)
        go_ret2
        exact ⟨_, rfl, Kd.R_nil _ _ _ _ _, HW5.out⟩
      · rw [if_neg hv] at H
        have hvd : decide (v > 20000) = false := decide_eq_false hv
        generalize hw : wrap64 (v - 1) = v1 at H
        have HWI : Aside0 (wrap64 (v - 1) = v1) := ⟨hw⟩
        clear hw
        by_cases hin : 0 ≤ a4 ∧ a4 ≤ v1
        · rw [if_pos hin] at H
          obtain ⟨o', hN, H⟩ := Option.bind_eq_some_iff.mp H
          simp only [Option.some.injEq, Prod.mk.injEq] at H
          obtain ⟨rfl, rfl⟩ := H
          have WI := Aside0.mk (nv_within a4 0 v1 true (decide_eq_true hin))
          have HN := Aside0.mk hN
          clear hN hin
          have hw := HWI.out
          go_wp2_with (fail)
          refine (impl_within.calls a4 0 v1 true _ WI.out).mono ?_
          rintro e w6 ⟨rfl, ⟨nd6, rfl⟩⟩
          clear hw hcz hc1 hx WI HWI hl1 hvd hv
          dsimp only
          have hcz : (w5.drewN nd6).cell? ⟨gc, 0, none⟩ = some (.slice Ab B.length cb) := (blk_cell HG.out 0).trans rfl
          go_wp2_with (fail)
          have W6 : Aside0 (Below w5.heap.size w5 (w5.drewN nd6)) := ⟨pw_below_drewN (Below.refl _ _) _⟩
          clear hcz
          go_loopg [3, 4, 14, 55] B.length (fun gg v3 v4 v14 v55 wi => ∃ (kk : Nat) (o : List Int) (m n : Int), kk ≤ B.length ∧ B.length - kk ≤ gg ∧ v55 = .int .i64 (kk : Int) ∧ v3 = .int .i64 m ∧ v4 = .int .i64 n ∧ Aside0 (nvOut k B O C (B.length - kk) kk o m n = some o') ∧ Aside0 (Kd.R (Kd.int .i64) 2 wi w5.heap.size (fun _ => True) v14 o) ∧ Aside0 (Below w5.heap.size w5 wi))
          case atStart => exact ⟨0, [], a3, a4, by omega, by omega, rfl, rfl, rfl, HN, ⟨Kd.R_nil _ _ _ _ _⟩, W6⟩
          case round =>
            clear HN W6
            obtain ⟨kk, o, m, n, hkk, hg, rfl, rfl, rfl, HN, HO, HB⟩ := hrel
            by_cases hlt : kk < B.length
            · have hltz : (kk : Int) < (B.length : Int) := by omega
              obtain ⟨d, hd⟩ : ∃ d, B.length - kk = d + 1 := ⟨B.length - kk - 1, by omega⟩
              have HN2 := HN.out
              rw [hd] at HN2
              unfold nvOut at HN2
              by_cases hkO : kk < O.length
              · rw [if_pos hkO] at HN2
                obtain ⟨⟨o1, m1, n1⟩, hI, hNx⟩ := Option.bind_eq_some_iff.mp HN2
                clear HN2 HN
                have HNX := Aside0.mk hNx
                clear hNx
                obtain ⟨ao, Ak, ck, e1, hcO, hlO, hCO⟩ := ch_at CO.out kk hkO
                subst e1
                have hcO : wr.cell? (ao.add kk) = some _ := (HB.out.cell (World.block_lt_of_cell? w5 _ hcO)).trans hcO
                have hkOz : (kk : Int) < (O.length : Int) := by omega
                generalize O.getD kk [] = L at hcO hlO hCO hI
                have HCL := Aside0.mk hCO
                have hLb := Kd.C_max hCO
                have HI := Aside0.mk hI
                have HG1 : Aside0 (wr.heap[gc]? = _) := ⟨blk_below HG.out HB.out⟩
                clear hCO hI
                have hcz1 : wr.cell? ⟨gc, 1, none⟩ = some (.slice (some ao) O.length co) := (blk_cell HG1.out 1).trans rfl
                obtain ⟨Av, cv, e14⟩ := Kd.R_slice HO.out
                subst e14
                go_wp2_with (fail)
                clear hcz1 hcO HG1
                go_loopg [3, 4, 14, 64] L.length (fun gg2 v3 v4 v14 v64 wi => ∃ (ii : Nat) (n2 : Int), ii ≤ L.length ∧ L.length - ii ≤ gg2 ∧ v64 = .int .i64 (ii : Int) ∧ v4 = .int .i64 n2 ∧ v3 = .int .i64 m ∧ v14 = .slice Av o.length cv ∧ Aside0 (nvIn k B O C kk (L.drop ii) o m n2 = some (o1, m1, n1)) ∧ Aside0 (Kd.R (Kd.int .i64) 2 wi w5.heap.size (fun _ => True) (.slice Av o.length cv) o) ∧ Aside0 (Below w5.heap.size w5 wi))
                case atStart => exact ⟨0, n, by omega, by omega, rfl, rfl, rfl, rfl, ⟨by rw [List.drop_zero]; exact HI.out⟩, HO, HB⟩
                case round =>
                  clear HI HO HB
                  obtain ⟨ii, n2, hii, hg2, rfl, rfl, rfl, rfl, HI, HO, HB⟩ := hrel
                  by_cases hlt2 : ii < L.length
                  · have hlt2z : (ii : Int) < (L.length : Int) := by omega
                    have HI2 := HI.out
                    rw [nvIn_drop _ _ _ _ _ L ii hlt2] at HI2
                    obtain ⟨left, hl, HI3⟩ := Option.bind_eq_some_iff.mp HI2
                    clear HI2 HI
                    have HL := Aside0.mk hl
                    clear hl
                    obtain ⟨al, e2, hi⟩ := Kd.at_int (Kd.C_below HCL.out HB.out) (ii : Int) (by omega) hlt2z
                    subst e2
                    rw [Int.toNat_natCast] at hi
                    generalize rd L (ii : Int) = i at hi HL HI3
                    have HI := Aside0.mk HI3
                    clear HI3
                    have HG1 : Aside0 (wr.heap[gc]? = _) := ⟨blk_below HG.out HB.out⟩
                    have hcz0 : wr.cell? ⟨gc, 0, none⟩ = some (.slice Ab B.length cb) := (blk_cell HG1.out 0).trans rfl
                    have hcz1 : wr.cell? ⟨gc, 1, none⟩ = some (.slice (some ao) O.length co) := (blk_cell HG1.out 1).trans rfl
                    have hcz2 : wr.cell? ⟨gc, 2, none⟩ = some (.slice (some ad) C.length cc) := (blk_cell HG1.out 2).trans rfl
                    go_wp2_with (fail)
                    clear hcz0 hcz1 hcz2 hi HG1
                    refine (impl_choices_left.calls k Ab cb B (some ao) co O (some ad) cc C (kk : Int) i m left _ (by first | exact Kd.C_below CB.out HB.out | exact Kd.C_drew (Kd.C_below CB.out HB.out)) LB.out (by first | exact Kd.C_below CO.out HB.out | exact Kd.C_drew (Kd.C_below CO.out HB.out)) LO.out (by first | exact Kd.C_below CC.out HB.out | exact Kd.C_drew (Kd.C_below CC.out HB.out)) LC.out HL.out).mono ?_
                    rintro e w7 ⟨rfl, hb7⟩
                    have HB7 : Aside0 (Below w5.heap.size w5 w7) := ⟨below_step (by repeat (first | exact HB.out | apply pw_below_drewN | apply below_drew1)) hb7⟩
                    have HO7 : Aside0 (Kd.R (Kd.int .i64) 2 w7 w5.heap.size (fun _ => True) (.slice Av o.length cv) o) := ⟨by first | exact Kd.R_below HO.out hb7 | exact Kd.R_below (Kd.R_drew HO.out) hb7⟩
                    clear hb7 HL
                    dsimp only
                    have HI2 := HI.out
                    by_cases hneg : left < 0
                    · rw [if_pos hneg] at HI2
                      have HI3 := Aside0.mk HI2
                      clear HI2
                      have hnd : decide (left < 0) = true := decide_eq_true hneg
                      go_wp2_with (fail)
                      go_roundg (L.length - (ii + 1))
                      case measure => omega
                      case rel => exact ⟨ii + 1, n2, by clear hneg hnd; omega, by clear hneg hnd; omega, by go_num, rfl, rfl, rfl, HI3, HO7, HB7⟩
                    · rw [if_neg hneg] at HI2
                      have hnd : decide (left < 0) = false := decide_eq_false hneg
                      by_cases hok : kk + 1 < C.length ∧ left < ((C.getD (kk + 1) []).length : Int) ∧ 0 ≤ i ∧ i < (B.length : Int) ∧ o.length + (B.getD i.toNat []).length < 1000000
                      · rw [if_pos hok] at HI2
                        obtain ⟨k1, k2, k3, k4, k5⟩ := hok
                        obtain ⟨q, hq⟩ : ∃ q : Nat, (q : Int) = i := ⟨i.toNat, by omega⟩
                        subst hq
                        rw [Int.toNat_natCast] at HI2 k5
                        obtain ⟨ad', Ar, cr, e3, hcr, hlr, hCr⟩ := ch_at CC.out (kk + 1) k1
                        cases e3
                        obtain ⟨ar, e4, hx7⟩ := Kd.at_int (Kd.C_below hCr HB7.out) left (by omega) k2
                        subst e4
                        have hcr : w7.cell? (ad.add (kk + 1)) = some _ := (HB7.out.cell (World.block_lt_of_cell? w5 _ hcr)).trans hcr
                        have hcr2 : w7.cell? ⟨ad.block, ad.off + (kk + 1), none⟩ = some _ := (show ad.add (kk + 1) = (⟨ad.block, ad.off + (kk + 1), none⟩ : Addr) from by simp [Addr.add]) ▸ hcr
                        generalize C.getD (kk + 1) [] = rowk at HI2 k2 hcr hcr2 hlr hCr hx7
                        clear hCr
                        generalize rd rowk left = vv at HI2 hx7
                        have HI3 := Aside0.mk HI2
                        clear HI2
                        have HG7 : Aside0 (w7.heap[gc]? = _) := ⟨blk_below HG.out HB7.out⟩
                        have hcz2 : w7.cell? ⟨gc, 2, none⟩ = some (.slice (some ad) C.length cc) := (blk_cell HG7.out 2).trans rfl
                        have l1 : (0 ≤ left) = True := eq_true (by omega)
                        have l2 : (left < (rowk.length : Int)) = True := eq_true k2
                        have u2 : (0 ≤ (kk : Int) + 1) = True := eq_true (by omega)
                        have u3 : ((kk : Int) + 1 < (C.length : Int)) = True := eq_true (by omega)
                        have u4 : ((kk : Int) + 1).toNat = kk + 1 := by omega
                        by_cases hnv : n2 < vv
                        · have HI4 := HI3.out
                          rw [if_pos hnv] at HI4
                          simp only [Option.some.injEq, Prod.mk.injEq] at HI4
                          obtain ⟨rfl, rfl, rfl⟩ := HI4
                          have hnvd : decide (n2 < vv) = true := decide_eq_true hnv
                          have k4n : q < B.length := by omega
                          obtain ⟨ab, Aq, cq, e5, hcq, hlq, hCq⟩ := ch_at CB.out q k4n
                          subst e5
                          have hcq : w7.cell? (ab.add q) = some _ := (HB7.out.cell (World.block_lt_of_cell? w5 _ hcq)).trans hcq
                          have hcz0 : w7.cell? ⟨gc, 0, none⟩ = some (.slice (some ab) B.length cb) := (blk_cell HG7.out 0).trans rfl
                          have HCQ : Aside0 (Kd.C (Kd.int .i64) w7 Aq (B.getD q []).length (B.getD q [])) := ⟨Kd.C_below hCq HB7.out⟩
                          clear hCq HG7
                          generalize B.getD q [] = bq at hcq hlq k5 HNX HCQ
                          have hAL : o.length + bq.length ≤ 17592186044416 := by omega
                          go_wp2_with (first | ((with_reducible refine gate_builtin (b := .append) (xs := #[.tmp 86, .tmp 91]) rfl ?_); at_builtin; (refine Kd.R_append_rows (Kd.int .i64) (w0 := w5) w5.heap.size rfl (.tmp 86) (.tmp 91) 25 2 (.int .i64 0) 8 rfl Try.underlying25 nv_info2 rfl (by decide) (by omega) (.slice Av o.length cv) o bq _ _ _ (fun _ => True) (fun _ => False) rfl rfl ?aO ?aR (fun _ _ h => h) (fun _ h => h.elim) ?aF ?aB ?aS ?aL ?_; (case aR => exact HCQ.out); (case aB => exact HB7.out); (case aF => exact (fun _ _ => trivial)); (case aO => exact HO7.out); (case aS => exact below_size HB7.out); (case aL => omega); intro v9 w9 ho hb hg hat; have HO9 := Aside0.mk ho; have HB9 := Aside0.mk hb; clear ho hb hg hat)) | fail)
                          go_roundg (B.length - (kk + 1))
                          case measure => omega
                          case rel => exact ⟨kk + 1, _, left, n2, by omega, by omega, by go_num, rfl, rfl, ⟨by rw [show B.length - (kk + 1) = d by omega]; exact HNX.out⟩, HO9, HB9⟩
                        · have HI4 := HI3.out
                          rw [if_neg hnv] at HI4
                          have HI5 := Aside0.mk HI4
                          clear HI4 HI3 HG7
                          have hnvd : decide (n2 < vv) = false := decide_eq_false hnv
                          go_wp2_with (fail)
                          go_roundg (L.length - (ii + 1))
                          case measure => omega
                          case rel => exact ⟨ii + 1, _, by omega, by omega, by go_num, rfl, rfl, rfl, HI5, HO7, HB7⟩
                      · rw [if_neg hok] at HI2
                        cases HI2
                  · obtain rfl : ii = L.length := by omega
                    have HI2 := HI.out
                    rw [List.drop_length] at HI2
                    unfold nvIn at HI2
                    simp only [Option.some.injEq, Prod.mk.injEq] at HI2
                    obtain ⟨rfl, rfl, rfl⟩ := HI2
                    have hF : decide ((L.length : Int) < (L.length : Int)) = false := decide_eq_false (by omega)
                    go_wp2_with (fail)
                    go_roundg (B.length - (kk + 1))
                    case measure => omega
                    case rel => exact ⟨kk + 1, o, m, n2, by omega, by omega, by go_num, rfl, rfl, ⟨by rw [show B.length - (kk + 1) = d by omega]; exact HNX.out⟩, HO, HB⟩
              · rw [if_neg hkO] at HN2
                cases HN2
            · obtain rfl : kk = B.length := by omega
              have HN2 := HN.out
              rw [Nat.sub_self] at HN2
              unfold nvOut at HN2
              obtain rfl := Option.some.inj HN2
              have hF : decide ((B.length : Int) < (B.length : Int)) = false := decide_eq_false (by omega)
              go_wp2_with (fail)
              go_ret2
              exact ⟨_, rfl, Kd.R_lower HO.out HW5.out.size, below_then HW5.out HW5.out.size HB.out⟩
        · rw [if_neg hin] at H
          simp only [Option.some.injEq, Prod.mk.injEq] at H
          obtain ⟨rfl, rfl⟩ := H
          have WI := Aside0.mk (nv_within a4 0 v1 false (decide_eq_false hin))
          clear hin
          have hw := HWI.out
          go_wp2_with (fail)
          refine (impl_within.calls a4 0 v1 false _ WI.out).mono ?_
          rintro e w6 ⟨rfl, ⟨nd6, rfl⟩⟩
          dsimp only
          go_wp2_with (fail)
          go_ret2
          exact ⟨_, rfl, Kd.R_nil _ _ _ _ _, below_step HW5.out (pw_below_drewN (Below.refl _ _) _)⟩
    · rw [if_neg hb] at H
      cases H
  · rw [if_neg hc] at H
    simp only [Option.some.injEq, Prod.mk.injEq] at H
    obtain ⟨rfl, rfl⟩ := H
    have d1 : (c == 0) = false := beq_eq_false_iff_ne.mpr hc
    have d2 : (c != 0) = true := bne_iff_ne.mpr hc
    go_wp2_with (fail)
    go_ret2
    exact ⟨_, rfl, Kd.R_nil _ _ _ _ _, HW5.out⟩

/-! ### laws_b10Nums: function 10 -/
def laws_b10Nums.l0 : Nat → List Int → List Int → Int → Option (Bool)
  | 0, _, _, _ => none
  | k + 1, x0, x1, x5 => if x5 < (x0.length : Int) then (if 0 ≤ x5 then (if x5 < (x1.length : Int) then (if (rd x0 x5) = (rd x1 x5) then (laws_b10Nums.l0 k x0 x1 (wrap64 (x5 + 1))) else (some false)) else (none)) else (none)) else (some true)
def laws_b10Nums.f (k : Nat) (l0 : List Int) (l1 : List Int) : Option (Bool) := if (l0.length : Int) = (l1.length : Int) then (laws_b10Nums.l0 k l0 l1 0) else (some false)
theorem laws_b10Nums.mono_l : ∀ k, (∀ y0 y1 y2, LeO (laws_b10Nums.l0 k y0 y1 y2) (laws_b10Nums.l0 (k + 1) y0 y1 y2))
  | 0 => fun _ _ _ r h => by simp [laws_b10Nums.l0] at h
  | k + 1 => by
    have ih0 := laws_b10Nums.mono_l k
    · intro y0 y1 y2
      unfold laws_b10Nums.l0
      repeat' first
      | (with_reducible exact ih0 _ _ _)
      | (with_reducible exact LeO.refl _)
      | (with_reducible exact LeO.none _)
      | (with_reducible refine LeO.ite ?_ ?_)
      | (with_reducible refine LeO.bind ?_ (fun _ => ?_))
      | exact ih0 _ _ _
      | exact LeO.none _
      | refine LeO.ite ?_ ?_
      | refine LeO.bind ?_ (fun _ => ?_)
theorem laws_b10Nums.mono : ∀ a0 a1 k, LeO (laws_b10Nums.f k a0 a1) (laws_b10Nums.f (k + 1) a0 a1) := by
  intro a0 a1 k
  have ih0 := laws_b10Nums.mono_l k
  unfold laws_b10Nums.f
  repeat' first
      | (with_reducible exact ih0 _ _ _)
      | (with_reducible exact LeO.refl _)
      | (with_reducible exact LeO.none _)
      | (with_reducible refine LeO.ite ?_ ?_)
      | (with_reducible refine LeO.bind ?_ (fun _ => ?_))
      | exact ih0 _ _ _
      | exact LeO.none _
      | refine LeO.ite ?_ ?_
      | refine LeO.bind ?_ (fun _ => ?_)
set_option maxHeartbeats 8000000 in
set_option maxRecDepth 100000 in
theorem laws_b10Nums.calls (k : Nat) (A0 : Option Addr) (c0 : Nat) (l0 : List Int) (A1 : Option Addr) (c1 : Nat) (l1 : List Int) (r : Bool) (w : World) (hr0 : Kd.C (Kd.int .i64) w A0 l0.length l0) (hc0 : l0.length ≤ c0) (hr1 : Kd.C (Kd.int .i64) w A1 l1.length l1) (hc1 : l1.length ≤ c1) (h : laws_b10Nums.f k l0 l1 = some r) :
    Calls Try.prog 10 #[.slice A0 l0.length c0, .slice A1 l1.length c1] w fun e w' => e = .returned (.bool r) ∧ Drawn0 w w' := by
  have HR0 := Aside0.mk hr0
  have HC0 := Aside0.mk hc0
  clear hr0 hc0
  have HR1 := Aside0.mk hr1
  have HC1 := Aside0.mk hc1
  clear hr1 hc1
  have H : (if (l0.length : Int) = (l1.length : Int) then (laws_b10Nums.l0 k l0 l1 0) else (some false)) = some r := h
  clear h
  by_cases c3 : (l0.length : Int) = (l1.length : Int)
  · rw [if_pos c3] at H
    have c3b0 : ((l0.length : Int) == (l1.length : Int)) = true := beq_iff_eq.mpr c3
    have c3b1 : ((l0.length : Int) != (l1.length : Int)) = false := bne_eq_false_iff_eq.mpr c3
    have c3b2 : (l0.length == l1.length) = true := by first | simpa using c3 | (simp at c3 ⊢; omega)
    clear c3
    have H' := Aside0.mk H
    clear H
    go_enter Try.func10, Try.ntmps10
    go_wp2
    repeat (go_quiet (fail); try go_wp2)
    go_loopg [5] k (fun kq v5 w' => ∃ (x5_1 : Int), v5 = .int .i64 x5_1 ∧ Aside0 (laws_b10Nums.l0 kq l0 l1 x5_1 = some r) ∧ Aside0 (kq ≤ k) ∧ Drawn0 w w')
    case atStart => exact ⟨(0), (by first | rfl | (simp; done) | (simp [*]; done)), H', ⟨Nat.le_refl _⟩, by repeat (first | exact Drawn0.refl _ | apply Drawn0.step)⟩
    case round =>
      clear H'
      try clear c1
      try clear p2
      try clear c3
      try clear c3b0
      try clear c3b1
      try clear c3b2
      obtain ⟨x5_1, rfl, HA, HK1, ⟨m1, rfl⟩⟩ := hrel
      cases gk with
      | zero => exact absurd HA.out (by simp [laws_b10Nums.l0])
      | succ k1 =>
        have H := HA.out
        clear HA
        simp only [laws_b10Nums.l0] at H
        by_cases c4 : x5_1 < (l0.length : Int)
        · rw [if_pos c4] at H
          have c4b0 : decide (x5_1 < (l0.length : Int)) = true := decide_eq_true c4
          clear c4
          by_cases c5 : 0 ≤ x5_1
          · rw [if_pos c5] at H
            have c5b0 : decide (0 ≤ x5_1) = true := decide_eq_true c5
            clear c5
            by_cases c6 : x5_1 < (l1.length : Int)
            · rw [if_pos c6] at H
              have c6b0 : decide (x5_1 < (l1.length : Int)) = true := decide_eq_true c6
              clear c6
              by_cases c7 : (rd l0 x5_1) = (rd l1 x5_1)
              · rw [if_pos c7] at H
                have c7b0 : ((rd l0 x5_1) == (rd l1 x5_1)) = true := beq_iff_eq.mpr c7
                have c7b1 : ((rd l0 x5_1) != (rd l1 x5_1)) = false := bne_eq_false_iff_eq.mpr c7
                clear c7
                have H' := Aside0.mk H
                clear H
                have p310 : 0 ≤ (x5_1 : Int) := of_decide_eq_true (by assumption)
                have q310 : x5_1 < (l0.length : Int) := of_decide_eq_true (by assumption)
                obtain ⟨ad310, e310, hx310_0⟩ := Kd.at_int HR0.out x5_1 p310 q310
                cases e310
                replace p310 := eq_true p310
                replace q310 := eq_true q310
                have p311 : 0 ≤ (x5_1 : Int) := of_decide_eq_true (by assumption)
                have q311 : x5_1 < (l1.length : Int) := of_decide_eq_true (by assumption)
                obtain ⟨ad311, e311, hx311_0⟩ := Kd.at_int HR1.out x5_1 p311 q311
                cases e311
                replace p311 := eq_true p311
                replace q311 := eq_true q311
                go_wp2
                repeat (go_quiet (fail); try go_wp2)
                go_roundg k1
                case measure => have := HK1.out; omega
                case rel => exact ⟨(wrap64 (x5_1 + 1)), (by first | rfl | (simp; done) | (simp [*]; done)), H', ⟨by have := HK1.out; omega⟩, by repeat (first | exact Drawn0.refl _ | apply Drawn0.step)⟩
              · rw [if_neg c7] at H
                have c7b0 : ((rd l0 x5_1) == (rd l1 x5_1)) = false := beq_eq_false_iff_ne.mpr c7
                have c7b1 : ((rd l0 x5_1) != (rd l1 x5_1)) = true := bne_iff_ne.mpr c7
                obtain rfl := Option.some.inj H
                have p310 : 0 ≤ (x5_1 : Int) := of_decide_eq_true (by assumption)
                have q310 : x5_1 < (l0.length : Int) := of_decide_eq_true (by assumption)
                obtain ⟨ad310, e310, hx310_0⟩ := Kd.at_int HR0.out x5_1 p310 q310
                cases e310
                replace p310 := eq_true p310
                replace q310 := eq_true q310
                have p311 : 0 ≤ (x5_1 : Int) := of_decide_eq_true (by assumption)
                have q311 : x5_1 < (l1.length : Int) := of_decide_eq_true (by assumption)
                obtain ⟨ad311, e311, hx311_0⟩ := Kd.at_int HR1.out x5_1 p311 q311
                cases e311
                replace p311 := eq_true p311
                replace q311 := eq_true q311
                go_wp2
                repeat (go_quiet (fail); try go_wp2)
                go_ret
                exact ⟨by first | rfl | (simp; done) | (simp [*]; done), by repeat (first | exact Drawn0.refl _ | apply Drawn0.step)⟩
            · rw [if_neg c6] at H
              exact absurd H (by simp)
          · rw [if_neg c5] at H
            exact absurd H (by simp)
        · rw [if_neg c4] at H
          have c4b0 : decide (x5_1 < (l0.length : Int)) = false := decide_eq_false c4
          clear c4
          obtain rfl := Option.some.inj H
          go_wp2
          repeat (go_quiet (fail); try go_wp2)
          go_ret
          exact ⟨by first | rfl | (simp; done) | (simp [*]; done), by repeat (first | exact Drawn0.refl _ | apply Drawn0.step)⟩
  · rw [if_neg c3] at H
    have c3b0 : ((l0.length : Int) == (l1.length : Int)) = false := beq_eq_false_iff_ne.mpr c3
    have c3b1 : ((l0.length : Int) != (l1.length : Int)) = true := bne_iff_ne.mpr c3
    have c3b2 : (l0.length == l1.length) = false := by first | simpa using c3 | (simp at c3 ⊢; omega)
    obtain rfl := Option.some.inj H
    go_enter Try.func10, Try.ntmps10
    go_wp2
    repeat (go_quiet (fail); try go_wp2)
    go_ret
    exact ⟨by first | rfl | (simp; done) | (simp [*]; done), by repeat (first | exact Drawn0.refl _ | apply Drawn0.step)⟩

/-! ### spec_l00In: function 41 -/
def spec_l00In.f (a0 : Int) (a1 : Int) (a2 : Int) : Option (Bool) := if a0 ≥ a1 then (some (decide (a0 ≤ a2))) else (some false)
set_option maxHeartbeats 8000000 in
set_option maxRecDepth 100000 in
theorem spec_l00In.calls (a0 : Int) (a1 : Int) (a2 : Int) (r : Bool) (w : World) (h : spec_l00In.f a0 a1 a2 = some r) :
    Calls Try.prog 41 #[.int .i64 a0, .int .i64 a1, .int .i64 a2] w fun e w' => e = .returned (.bool r) ∧ Drawn0 w w' := by
  have H : (if a0 ≥ a1 then (some (decide (a0 ≤ a2))) else (some false)) = some r := h
  clear h
  by_cases c4 : a0 ≥ a1
  · rw [if_pos c4] at H
    have c4b0 : decide (a1 ≤ a0) = true := decide_eq_true c4
    clear c4
    obtain rfl := Option.some.inj H
    go_enter Try.func41, Try.ntmps41
    go_wp2
    go_ret
    exact ⟨by first | rfl | (simp; done) | (simp [*]; done), by repeat (first | exact Drawn0.refl _ | apply Drawn0.step)⟩
  · rw [if_neg c4] at H
    have c4b0 : decide (a1 ≤ a0) = false := decide_eq_false c4
    clear c4
    obtain rfl := Option.some.inj H
    go_enter Try.func41, Try.ntmps41
    go_wp2
    go_ret
    exact ⟨by first | rfl | (simp; done) | (simp [*]; done), by repeat (first | exact Drawn0.refl _ | apply Drawn0.step)⟩

/-! ### spec_l01Small: function 75 -/
def spec_l01Small.f (a0 : Int) : Option (Bool) := if a0 ≥ 97 then (some (decide (a0 ≤ 122))) else (some false)
set_option maxHeartbeats 8000000 in
set_option maxRecDepth 100000 in
theorem spec_l01Small.calls (a0 : Int) (r : Bool) (w : World) (h : spec_l01Small.f a0 = some r) :
    Calls Try.prog 75 #[.int .u8 a0] w fun e w' => e = .returned (.bool r) ∧ Drawn0 w w' := by
  have H : (if a0 ≥ 97 then (some (decide (a0 ≤ 122))) else (some false)) = some r := h
  clear h
  by_cases c2 : a0 ≥ 97
  · rw [if_pos c2] at H
    have c2b0 : decide (97 ≤ a0) = true := decide_eq_true c2
    clear c2
    obtain rfl := Option.some.inj H
    go_enter Try.func75, Try.ntmps75
    go_wp2
    go_ret
    exact ⟨by first | rfl | (simp; done) | (simp [*]; done), by repeat (first | exact Drawn0.refl _ | apply Drawn0.step)⟩
  · rw [if_neg c2] at H
    have c2b0 : decide (97 ≤ a0) = false := decide_eq_false c2
    clear c2
    obtain rfl := Option.some.inj H
    go_enter Try.func75, Try.ntmps75
    go_wp2
    go_ret
    exact ⟨by first | rfl | (simp; done) | (simp [*]; done), by repeat (first | exact Drawn0.refl _ | apply Drawn0.step)⟩

/-! ### spec_l01Digit: function 76 -/
def spec_l01Digit.f (a0 : Int) : Option (Bool) := if a0 ≥ 48 then (some (decide (a0 ≤ 57))) else (some false)
set_option maxHeartbeats 8000000 in
set_option maxRecDepth 100000 in
theorem spec_l01Digit.calls (a0 : Int) (r : Bool) (w : World) (h : spec_l01Digit.f a0 = some r) :
    Calls Try.prog 76 #[.int .u8 a0] w fun e w' => e = .returned (.bool r) ∧ Drawn0 w w' := by
  have H : (if a0 ≥ 48 then (some (decide (a0 ≤ 57))) else (some false)) = some r := h
  clear h
  by_cases c2 : a0 ≥ 48
  · rw [if_pos c2] at H
    have c2b0 : decide (48 ≤ a0) = true := decide_eq_true c2
    clear c2
    obtain rfl := Option.some.inj H
    go_enter Try.func76, Try.ntmps76
    go_wp2
    go_ret
    exact ⟨by first | rfl | (simp; done) | (simp [*]; done), by repeat (first | exact Drawn0.refl _ | apply Drawn0.step)⟩
  · rw [if_neg c2] at H
    have c2b0 : decide (48 ≤ a0) = false := decide_eq_false c2
    clear c2
    obtain rfl := Option.some.inj H
    go_enter Try.func76, Try.ntmps76
    go_wp2
    go_ret
    exact ⟨by first | rfl | (simp; done) | (simp [*]; done), by repeat (first | exact Drawn0.refl _ | apply Drawn0.step)⟩

/-! ### spec_l01Name: function 71 -/
mutual
def spec_l01Name.j0 : Nat → ByteArray → Bool → Option (Bool)
  | 0, _, _ => none
  | k + 1, x0, x16 => if x16 = true then (some false) else (spec_l01Name.l0 k x0 0)
def spec_l01Name.l0 : Nat → ByteArray → Int → Option (Bool)
  | 0, _, _ => none
  | k + 1, x0, x3 => if x3 < (x0.size : Int) then (if 0 ≤ x3 then ((spec_l01Small.f (bt x0 x3)).bind fun t313 => (if t313 = true then (spec_l01Name.l0 k x0 (wrap64 (x3 + 1))) else ((spec_l01Digit.f (bt x0 x3)).bind fun t314 => (if t314 = true then (spec_l01Name.l0 k x0 (wrap64 (x3 + 1))) else (some false))))) else (none)) else (some true)
end
def spec_l01Name.f (k : Nat) (a0 : ByteArray) : Option (Bool) := if a0.toList = ([] : List UInt8) then (spec_l01Name.j0 k a0 true) else (if (a0.size : Int) > 10 then (spec_l01Name.j0 k a0 true) else (if 0 < (a0.size : Int) then ((spec_l01Small.f (bt a0 0)).bind fun t312 => (spec_l01Name.j0 k a0 (!t312))) else (none)))
theorem spec_l01Name.mono_l : ∀ k, (∀ y0 y1, LeO (spec_l01Name.j0 k y0 y1) (spec_l01Name.j0 (k + 1) y0 y1)) ∧ (∀ y0 y1, LeO (spec_l01Name.l0 k y0 y1) (spec_l01Name.l0 (k + 1) y0 y1))
  | 0 => ⟨fun _ _ r h => by simp [spec_l01Name.j0] at h, fun _ _ r h => by simp [spec_l01Name.l0] at h⟩
  | k + 1 => by
    obtain ⟨ih0, ih1⟩ := spec_l01Name.mono_l k
    refine ⟨?_, ?_⟩
    · intro y0 y1
      unfold spec_l01Name.j0
      repeat' first
      | (with_reducible exact ih0 _ _)
      | (with_reducible exact ih1 _ _)
      | (with_reducible exact LeO.refl _)
      | (with_reducible exact LeO.none _)
      | (with_reducible refine LeO.ite ?_ ?_)
      | (with_reducible refine LeO.bind ?_ (fun _ => ?_))
      | exact ih0 _ _
      | exact ih1 _ _
      | exact LeO.none _
      | refine LeO.ite ?_ ?_
      | refine LeO.bind ?_ (fun _ => ?_)
    · intro y0 y1
      unfold spec_l01Name.l0
      repeat' first
      | (with_reducible exact ih0 _ _)
      | (with_reducible exact ih1 _ _)
      | (with_reducible exact LeO.refl _)
      | (with_reducible exact LeO.none _)
      | (with_reducible refine LeO.ite ?_ ?_)
      | (with_reducible refine LeO.bind ?_ (fun _ => ?_))
      | exact ih0 _ _
      | exact ih1 _ _
      | exact LeO.none _
      | refine LeO.ite ?_ ?_
      | refine LeO.bind ?_ (fun _ => ?_)
theorem spec_l01Name.mono : ∀ a0 k, LeO (spec_l01Name.f k a0) (spec_l01Name.f (k + 1) a0) := by
  intro a0 k
  obtain ⟨ih0, ih1⟩ := spec_l01Name.mono_l k
  unfold spec_l01Name.f
  repeat' first
      | (with_reducible exact ih0 _ _)
      | (with_reducible exact ih1 _ _)
      | (with_reducible exact LeO.refl _)
      | (with_reducible exact LeO.none _)
      | (with_reducible refine LeO.ite ?_ ?_)
      | (with_reducible refine LeO.bind ?_ (fun _ => ?_))
      | exact ih0 _ _
      | exact ih1 _ _
      | exact LeO.none _
      | refine LeO.ite ?_ ?_
      | refine LeO.bind ?_ (fun _ => ?_)
set_option maxHeartbeats 8000000 in
set_option maxRecDepth 100000 in
theorem spec_l01Name.calls (k : Nat) (a0 : ByteArray) (r : Bool) (w : World) (h : spec_l01Name.f k a0 = some r) :
    Calls Try.prog 71 #[.string a0] w fun e w' => e = .returned (.bool r) ∧ Drawn0 w w' := by
  have H : (if a0.toList = ([] : List UInt8) then (spec_l01Name.j0 k a0 true) else (if (a0.size : Int) > 10 then (spec_l01Name.j0 k a0 true) else (if 0 < (a0.size : Int) then ((spec_l01Small.f (bt a0 0)).bind fun t312 => (spec_l01Name.j0 k a0 (!t312))) else (none)))) = some r := h
  clear h
  have HC2 := Aside0.mk H
  clear H
  go_enter Try.func71, Try.ntmps71
  go_upto_region 1 with (fail)
  go_cut [16] (fun v16 wc => ∃ (kq : Nat) (x16_1 : Bool), v16 = .bool x16_1 ∧ Aside0 (spec_l01Name.j0 kq a0 x16_1 = some r) ∧ Aside0 (kq ≤ k) ∧ Drawn0 w wc)
  case first =>
    have H := HC2.out
    clear HC2
    by_cases c3 : a0.toList = ([] : List UInt8)
    · rw [if_pos c3] at H
      have c3b0 : (a0.toList == ([] : List UInt8)) = true := beq_iff_eq.mpr c3
      have c3b1 : (a0.toList != ([] : List UInt8)) = false := bne_eq_false_iff_eq.mpr c3
      clear c3
      (first | rw [c3b0] | (simp only [i64_w, i32_w]; rw [c3b0]) | skip)
      have H' := Aside0.mk H
      clear H
      go_wp2
      go_meet
      case rel => exact ⟨_, (true), (by first | rfl | (simp; done) | (simp [*]; done)), H', ⟨by first | omega | exact Nat.le_refl _⟩, by repeat (first | exact Drawn0.refl _ | apply Drawn0.step)⟩
    · rw [if_neg c3] at H
      have c3b0 : (a0.toList == ([] : List UInt8)) = false := beq_eq_false_iff_ne.mpr c3
      have c3b1 : (a0.toList != ([] : List UInt8)) = true := bne_iff_ne.mpr c3
      (first | rw [c3b0] | (simp only [i64_w, i32_w]; rw [c3b0]) | skip)
      by_cases c4 : (a0.size : Int) > 10
      · rw [if_pos c4] at H
        have c4b0 : decide (10 < (a0.size : Int)) = true := decide_eq_true c4
        have c4b1 : decide (10 < a0.size) = true := decide_eq_true (by omega)
        clear c4
        have H' := Aside0.mk H
        clear H
        go_wp2
        go_meet
        case rel => exact ⟨_, (true), (by first | rfl | (simp; done) | (simp [*]; done)), H', ⟨by first | omega | exact Nat.le_refl _⟩, by repeat (first | exact Drawn0.refl _ | apply Drawn0.step)⟩
      · rw [if_neg c4] at H
        have c4b0 : decide (10 < (a0.size : Int)) = false := decide_eq_false c4
        have c4b1 : decide (10 < a0.size) = false := decide_eq_false (by omega)
        clear c4
        by_cases c5 : 0 < (a0.size : Int)
        · rw [if_pos c5] at H
          have c5b0 : decide (0 < (a0.size : Int)) = true := decide_eq_true c5
          have c5b1 : decide (0 < a0.size) = true := decide_eq_true (by omega)
          clear c5
          replace H := Option.bind_eq_some_iff.mp H
          obtain ⟨t312, A70, H⟩ := H
          replace H : (spec_l01Name.j0 k a0 (!t312)) = some r := H
          have A7 := Aside0.mk A70
          clear A70
          have H' := Aside0.mk H
          clear H
          have p6 : 0 ≤ (0 : Int) := (by omega)
          have q6 : 0 < a0.size := (by have : (0 : Int) < (a0.size : Int) := of_decide_eq_true (by assumption); omega)
          have hx6 : ∀ h : 0 < a0.size, ((a0[0]'h).toNat : Int) = bt a0 0 := bt_at a0 0
          clear p6
          have qi6 : (0 < (a0.size : Int)) = True := eq_true (of_decide_eq_true (by assumption))
          replace q6 := eq_true q6
          go_wp2_with (first | (go_at_call 75; (with_reducible refine (spec_l01Small.calls (bt a0 0) t312 _ A7.out).mono ?_); rintro e w' ⟨rfl, ⟨nd, rfl⟩⟩))
          go_meet
          case rel => exact ⟨_, (!t312), (by first | rfl | (simp; done) | (simp [*]; done)), H', ⟨by first | omega | exact Nat.le_refl _⟩, by repeat (first | exact Drawn0.refl _ | apply Drawn0.step)⟩
        · rw [if_neg c5] at H
          exact absurd H (by simp)
  case rest =>
    clear HC2
    try clear p2
    try clear c3
    try clear c3b0
    try clear c3b1
    try clear c4
    try clear c4b0
    try clear c4b1
    try clear c5
    try clear c5b0
    try clear c5b1
    try clear p6
    try clear q6
    try clear hx6
    try clear qi6
    try clear c7
    try clear p6
    try clear q6
    obtain ⟨kq, x16_1, rfl, HA, HJ1, ⟨mc1, rfl⟩⟩ := hcut
    cases kq with
    | zero => exact absurd HA.out (by simp [spec_l01Name.j0])
    | succ kj1 =>
      have H := HA.out
      clear HA
      simp only [spec_l01Name.j0] at H
      by_cases c8 : x16_1 = true
      · subst c8
        have H1 : (some false) = some r := by rw [if_pos rfl] at H; exact H
        clear H
        have H := H1
        clear H1
        obtain rfl := Option.some.inj H
        go_wp2
        go_ret
        exact ⟨by first | rfl | (simp; done) | (simp [*]; done), by repeat (first | exact Drawn0.refl _ | apply Drawn0.step)⟩
      · replace c8 := Bool.eq_false_iff.mpr c8
        subst c8
        have H1 : (spec_l01Name.l0 kj1 a0 0) = some r := by rw [if_neg (show ¬ (false = true) by decide)] at H; exact H
        clear H
        have H := H1
        clear H1
        have H' := Aside0.mk H
        clear H
        go_wp2
        go_loopg [3] kj1 (fun kq v3 w' => ∃ (x3_2 : Int), v3 = .int .i64 x3_2 ∧ Aside0 (spec_l01Name.l0 kq a0 x3_2 = some r) ∧ Aside0 (kq ≤ kj1) ∧ Drawn0 w w')
        case atStart => exact ⟨(0), (by first | rfl | (simp; done) | (simp [*]; done)), H', ⟨Nat.le_refl _⟩, by repeat (first | exact Drawn0.refl _ | apply Drawn0.step)⟩
        case round =>
          clear H'
          try clear c1
          try clear p2
          try clear c3
          try clear c3b0
          try clear c3b1
          try clear c4
          try clear c4b0
          try clear c4b1
          try clear c5
          try clear c5b0
          try clear c5b1
          try clear p6
          try clear q6
          try clear hx6
          try clear qi6
          try clear c7
          try clear c8
          try clear p2
          try clear p6
          try clear q6
          obtain ⟨x3_2, rfl, HA, HK2, ⟨m2, rfl⟩⟩ := hrel
          cases gk with
          | zero => exact absurd HA.out (by simp [spec_l01Name.l0])
          | succ k2 =>
            have H := HA.out
            clear HA
            simp only [spec_l01Name.l0] at H
            by_cases c9 : x3_2 < (a0.size : Int)
            · rw [if_pos c9] at H
              have c9b0 : decide (x3_2 < (a0.size : Int)) = true := decide_eq_true c9
              clear c9
              by_cases c10 : 0 ≤ x3_2
              · rw [if_pos c10] at H
                have c10b0 : decide (0 ≤ x3_2) = true := decide_eq_true c10
                clear c10
                replace H := Option.bind_eq_some_iff.mp H
                obtain ⟨t313, A120, H⟩ := H
                replace H : (if t313 = true then (spec_l01Name.l0 k2 a0 (wrap64 (x3_2 + 1))) else ((spec_l01Digit.f (bt a0 x3_2)).bind fun t314 => (if t314 = true then (spec_l01Name.l0 k2 a0 (wrap64 (x3_2 + 1))) else (some false)))) = some r := H
                have A12 := Aside0.mk A120
                clear A120
                by_cases c13 : t313 = true
                · subst c13
                  have H1 : (spec_l01Name.l0 k2 a0 (wrap64 (x3_2 + 1))) = some r := by rw [if_pos rfl] at H; exact H
                  clear H
                  have H := H1
                  clear H1
                  have H' := Aside0.mk H
                  clear H
                  have p11 : 0 ≤ (x3_2 : Int) := of_decide_eq_true (by assumption)
                  have q11 : x3_2 < (a0.size : Int) := of_decide_eq_true (by assumption)
                  have hx11 := bt_at a0 x3_2
                  replace p11 := eq_true p11
                  replace q11 := eq_true q11
                  go_wp2_with (first | ((with_reducible refine gate_callee (f := 75) rfl ?_); refine goesL_ (some 26) rfl rfl Try.func75 (by kernel_rfl) rfl #[.int .u8 (bt a0 x3_2)] rfl (by (try simp only [List.map_toArray, List.map_cons, List.map_nil]); first | done | rfl) ?_; (with_reducible refine (spec_l01Small.calls (bt a0 x3_2) true _ A12.out).mono ?_); rintro e w' ⟨rfl, ⟨nd, rfl⟩⟩; refine ⟨_, rfl, ?_⟩))
                  go_roundg k2
                  case measure => have := HJ1.out; have := HK2.out; omega
                  case rel => exact ⟨(wrap64 (x3_2 + 1)), (by first | rfl | (simp; done) | (simp [*]; done)), H', ⟨by have := HJ1.out; have := HK2.out; omega⟩, by repeat (first | exact Drawn0.refl _ | apply Drawn0.step)⟩
                · replace c13 := Bool.eq_false_iff.mpr c13
                  subst c13
                  have H1 : ((spec_l01Digit.f (bt a0 x3_2)).bind fun t314 => (if t314 = true then (spec_l01Name.l0 k2 a0 (wrap64 (x3_2 + 1))) else (some false))) = some r := by rw [if_neg (show ¬ (false = true) by decide)] at H; exact H
                  clear H
                  have H := H1
                  clear H1
                  replace H := Option.bind_eq_some_iff.mp H
                  obtain ⟨t314, A150, H⟩ := H
                  replace H : (if t314 = true then (spec_l01Name.l0 k2 a0 (wrap64 (x3_2 + 1))) else (some false)) = some r := H
                  have A15 := Aside0.mk A150
                  clear A150
                  by_cases c16 : t314 = true
                  · subst c16
                    have H1 : (spec_l01Name.l0 k2 a0 (wrap64 (x3_2 + 1))) = some r := by rw [if_pos rfl] at H; exact H
                    clear H
                    have H := H1
                    clear H1
                    have H' := Aside0.mk H
                    clear H
                    have p11 : 0 ≤ (x3_2 : Int) := of_decide_eq_true (by assumption)
                    have q11 : x3_2 < (a0.size : Int) := of_decide_eq_true (by assumption)
                    have hx11 := bt_at a0 x3_2
                    replace p11 := eq_true p11
                    replace q11 := eq_true q11
                    go_wp2_with (first | ((with_reducible refine gate_callee (f := 75) rfl ?_); refine goesL_ (some 26) rfl rfl Try.func75 (by kernel_rfl) rfl #[.int .u8 (bt a0 x3_2)] rfl (by (try simp only [List.map_toArray, List.map_cons, List.map_nil]); first | done | rfl) ?_; (with_reducible refine (spec_l01Small.calls (bt a0 x3_2) false _ A12.out).mono ?_); rintro e w' ⟨rfl, ⟨nd, rfl⟩⟩; refine ⟨_, rfl, ?_⟩; have p14 : 0 ≤ (x3_2 : Int) := of_decide_eq_true (by assumption); have q14 : x3_2 < (a0.size : Int) := of_decide_eq_true (by assumption); have hx14 := bt_at a0 x3_2; replace p14 := eq_true p14; replace q14 := eq_true q14) | (go_at_call 76; (with_reducible refine (spec_l01Digit.calls (bt a0 x3_2) true _ A15.out).mono ?_); rintro e w' ⟨rfl, ⟨nd, rfl⟩⟩))
                    go_roundg k2
                    case measure => have := HJ1.out; have := HK2.out; omega
                    case rel => exact ⟨(wrap64 (x3_2 + 1)), (by first | rfl | (simp; done) | (simp [*]; done)), H', ⟨by have := HJ1.out; have := HK2.out; omega⟩, by repeat (first | exact Drawn0.refl _ | apply Drawn0.step)⟩
                  · replace c16 := Bool.eq_false_iff.mpr c16
                    subst c16
                    have H1 : (some false) = some r := by rw [if_neg (show ¬ (false = true) by decide)] at H; exact H
                    clear H
                    have H := H1
                    clear H1
                    obtain rfl := Option.some.inj H
                    have p11 : 0 ≤ (x3_2 : Int) := of_decide_eq_true (by assumption)
                    have q11 : x3_2 < (a0.size : Int) := of_decide_eq_true (by assumption)
                    have hx11 := bt_at a0 x3_2
                    replace p11 := eq_true p11
                    replace q11 := eq_true q11
                    go_wp2_with (first | ((with_reducible refine gate_callee (f := 75) rfl ?_); refine goesL_ (some 26) rfl rfl Try.func75 (by kernel_rfl) rfl #[.int .u8 (bt a0 x3_2)] rfl (by (try simp only [List.map_toArray, List.map_cons, List.map_nil]); first | done | rfl) ?_; (with_reducible refine (spec_l01Small.calls (bt a0 x3_2) false _ A12.out).mono ?_); rintro e w' ⟨rfl, ⟨nd, rfl⟩⟩; refine ⟨_, rfl, ?_⟩; have p14 : 0 ≤ (x3_2 : Int) := of_decide_eq_true (by assumption); have q14 : x3_2 < (a0.size : Int) := of_decide_eq_true (by assumption); have hx14 := bt_at a0 x3_2; replace p14 := eq_true p14; replace q14 := eq_true q14) | (go_at_call 76; (with_reducible refine (spec_l01Digit.calls (bt a0 x3_2) false _ A15.out).mono ?_); rintro e w' ⟨rfl, ⟨nd, rfl⟩⟩))
                    go_ret
                    exact ⟨by first | rfl | (simp; done) | (simp [*]; done), by repeat (first | exact Drawn0.refl _ | apply Drawn0.step)⟩
              · rw [if_neg c10] at H
                exact absurd H (by simp)
            · rw [if_neg c9] at H
              have c9b0 : decide (x3_2 < (a0.size : Int)) = false := decide_eq_false c9
              clear c9
              obtain rfl := Option.some.inj H
              go_wp2
              go_ret
              exact ⟨by first | rfl | (simp; done) | (simp [*]; done), by repeat (first | exact Drawn0.refl _ | apply Drawn0.step)⟩

end Go.Proofs.Ytidbcglhpaamdaa.PFnVariants
