-- written by xprint.py, a program of this repo over the kit's print; not trusted: Lean checks it
import Derived.Test.YtidbcglhpaamdaaPFnExactNumberedVariationx0
import Derived.Test.YtidbcglhpaamdaaPFnExactNumberedVariationx7
import Derived.Test.YtidbcglhpaamdaaPFnExactNumberedVariationx10
import Derived.Test.YtidbcglhpaamdaaPFnExactNumberedVariationx11
import Derived.Test.YtidbcglhpaamdaaPFnExactNumberedVariationx12
namespace Go.Proofs.Ytidbcglhpaamdaa.PFnExactNumberedVariation
open Go.RowKit Go.Proofs.YtidbcglhpaamdaaW.PrintWords Go.Proofs.YtidbcglhpaamdaaW.PrintLast Go.Proofs.YtidbcglhpaamdaaW.PrintMore
attribute [local go_sem] max2_int min2_int max_two min_two max_three min_three max_four min_four   -- for this text's walks alone
set_option linter.unusedVariables false
set_option linter.unusedSimpArgs false

/-! ### spec_NumberedVariation: function 18 -/
mutual
def spec_NumberedVariation.l0 : Nat → Int → Int → List (List Int) → List (List Int) → List (List Int) → List Int → Int → Option (List Int × Int)
 | 0, _, _, _, _, _, _, _ => none
 | k + 1, x3, x4, x13, x14, x15, x16, x17 => if x17 < (x13.length : Int) then (spec_NumberedVariation.l1 k x3 x4 x13 x14 x15 x16 x17 0) else (some (x16, 0))
def spec_NumberedVariation.l1 : Nat → Int → Int → List (List Int) → List (List Int) → List (List Int) → List Int → Int → Int → Option (List Int × Int)
 | 0, _, _, _, _, _, _, _, _ => none
 | k + 1, x3, x4, x13, x14, x15, x16, x17, x18 => if 0 ≤ x17 then (if x17 < (x14.length : Int) then (if x18 < ((rd_L3 x14 x17).length : Int) then (if 0 ≤ x18 then (if 0 ≤ (rd (rd_L3 x14 x17) x18) then (if (rd (rd_L3 x14 x17) x18) < (x13.length : Int) then (if x17 < (x13.length : Int) then ((spec_l00Same.f k (rd_L3 x13 (rd (rd_L3 x14 x17) x18)) (rd_L3 x13 x17)).bind fun t269 => (if t269 = true then (spec_NumberedVariation.j2 k x3 x4 x13 x14 x15 x16 x17 x18 x3) else (spec_NumberedVariation.j2 k x3 x4 x13 x14 x15 x16 x17 x18 (wrap64 (x3 - 1))))) else (none)) else (none)) else (none)) else (none)) else (spec_NumberedVariation.l0 k x3 x4 x13 x14 x15 x16 (wrap64 (x17 + 1)))) else (none)) else (none)
def spec_NumberedVariation.j2 : Nat → Int → Int → List (List Int) → List (List Int) → List (List Int) → List Int → Int → Int → Int → Option (List Int × Int)
 | 0, _, _, _, _, _, _, _, _, _ => none
 | k + 1, x3, x4, x13, x14, x15, x16, x17, x18, x19 => if x19 < 0 then (spec_NumberedVariation.l1 k x3 x4 x13 x14 x15 x16 x17 (wrap64 (x18 + 1))) else (if 0 ≤ (wrap64 (x17 + 1)) then (if (wrap64 (x17 + 1)) < (x15.length : Int) then (if 0 ≤ x19 then (if x19 < ((rd_L3 x15 (wrap64 (x17 + 1))).length : Int) then (if x4 < (rd (rd_L3 x15 (wrap64 (x17 + 1))) x19) then (if 0 ≤ x17 then (if x17 < (x14.length : Int) then (if 0 ≤ x18 then (if x18 < ((rd_L3 x14 x17).length : Int) then (if 0 ≤ (rd (rd_L3 x14 x17) x18) then (if (rd (rd_L3 x14 x17) x18) < (x13.length : Int) then (if x16.length + (rd_L3 x13 (rd (rd_L3 x14 x17) x18)).length < 17592186044416 then (spec_NumberedVariation.l0 k x19 x4 x13 x14 x15 (x16 ++ (rd_L3 x13 (rd (rd_L3 x14 x17) x18))) (wrap64 (x17 + 1))) else (none)) else (none)) else (none)) else (none)) else (none)) else (none)) else (none)) else (spec_NumberedVariation.l1 k x3 (wrap64 (x4 - (rd (rd_L3 x15 (wrap64 (x17 + 1))) x19))) x13 x14 x15 x16 x17 (wrap64 (x18 + 1)))) else (none)) else (none)) else (none)) else (none))
end
def spec_NumberedVariation.f (k : Nat) (l0 : List (S66)) (l1 : List Int) (a2 : Int) (a3 : Int) (a4 : Int) : Option (List Int × Int) := (spec_l20Vary.f k l0 l1 a2 a3).bind fun t246 => (if t246 = 0 then ((spec_l20Blocks.f k l1 a2).bind fun t247 => ((spec_l20Choices.f k l0 t247).bind fun t250 => ((spec_l20Ways.f k t247 t250 a3).bind fun t253 => (if 0 < (t253.length : Int) then (if 0 ≤ a3 then (if a3 < ((rd_L3 t253 0).length : Int) then (if (rd (rd_L3 t253 0) a3) > 20000 then (some (([] : List Int), 5)) else ((spec_l00In.f a4 0 (wrap64 ((rd (rd_L3 t253 0) a3) - 1))).bind fun t260 => (if t260 = true then (spec_NumberedVariation.l0 k a3 a4 t247 t250 t253 (([] : List Int)) 0) else (some (([] : List Int), 3))))) else (none)) else (none)) else (none))))) else (some (([] : List Int), t246)))
theorem spec_NumberedVariation.mono_l : ∀ k, (∀ y0 y1 y2 y3 y4 y5 y6, LeO (spec_NumberedVariation.l0 k y0 y1 y2 y3 y4 y5 y6) (spec_NumberedVariation.l0 (k + 1) y0 y1 y2 y3 y4 y5 y6)) ∧ (∀ y0 y1 y2 y3 y4 y5 y6 y7, LeO (spec_NumberedVariation.l1 k y0 y1 y2 y3 y4 y5 y6 y7) (spec_NumberedVariation.l1 (k + 1) y0 y1 y2 y3 y4 y5 y6 y7)) ∧ (∀ y0 y1 y2 y3 y4 y5 y6 y7 y8, LeO (spec_NumberedVariation.j2 k y0 y1 y2 y3 y4 y5 y6 y7 y8) (spec_NumberedVariation.j2 (k + 1) y0 y1 y2 y3 y4 y5 y6 y7 y8))
 | 0 => ⟨fun _ _ _ _ _ _ _ r h => by simp [spec_NumberedVariation.l0] at h, fun _ _ _ _ _ _ _ _ r h => by simp [spec_NumberedVariation.l1] at h, fun _ _ _ _ _ _ _ _ _ r h => by simp [spec_NumberedVariation.j2] at h⟩
 | k + 1 => by
  obtain ⟨ih0, ih1, ih2⟩ := spec_NumberedVariation.mono_l k
  refine ⟨?_, ?_, ?_⟩
  ·intro y0 y1 y2 y3 y4 y5 y6
   unfold spec_NumberedVariation.l0
   repeat' first
   | (with_reducible exact ih0 _ _ _ _ _ _ _)
   | (with_reducible exact ih1 _ _ _ _ _ _ _ _)
   | (with_reducible exact ih2 _ _ _ _ _ _ _ _ _)
   | (with_reducible exact spec_l00Same.mono _ _ _)
   | (with_reducible exact spec_l20Blocks.mono _ _ _)
   | (with_reducible exact spec_l20Choices.mono _ _ _)
   | (with_reducible exact spec_l20Vary.mono _ _ _ _ _)
   | (with_reducible exact spec_l20Ways.mono _ _ _ _)
   | (with_reducible exact LeO.refl _)
   | (with_reducible exact LeO.none _)
   | (with_reducible refine LeO.ite ?_ ?_)
   | (with_reducible refine LeO.bind ?_ (fun _ => ?_))
   | exact ih0 _ _ _ _ _ _ _
   | exact ih1 _ _ _ _ _ _ _ _
   | exact ih2 _ _ _ _ _ _ _ _ _
   | exact spec_l00Same.mono _ _ _
   | exact spec_l20Blocks.mono _ _ _
   | exact spec_l20Choices.mono _ _ _
   | exact spec_l20Vary.mono _ _ _ _ _
   | exact spec_l20Ways.mono _ _ _ _
   | exact LeO.none _
   | refine LeO.ite ?_ ?_
   | refine LeO.bind ?_ (fun _ => ?_)
  ·intro y0 y1 y2 y3 y4 y5 y6 y7
   unfold spec_NumberedVariation.l1
   repeat' first
   | (with_reducible exact ih0 _ _ _ _ _ _ _)
   | (with_reducible exact ih1 _ _ _ _ _ _ _ _)
   | (with_reducible exact ih2 _ _ _ _ _ _ _ _ _)
   | (with_reducible exact spec_l00Same.mono _ _ _)
   | (with_reducible exact spec_l20Blocks.mono _ _ _)
   | (with_reducible exact spec_l20Choices.mono _ _ _)
   | (with_reducible exact spec_l20Vary.mono _ _ _ _ _)
   | (with_reducible exact spec_l20Ways.mono _ _ _ _)
   | (with_reducible exact LeO.refl _)
   | (with_reducible exact LeO.none _)
   | (with_reducible refine LeO.ite ?_ ?_)
   | (with_reducible refine LeO.bind ?_ (fun _ => ?_))
   | exact ih0 _ _ _ _ _ _ _
   | exact ih1 _ _ _ _ _ _ _ _
   | exact ih2 _ _ _ _ _ _ _ _ _
   | exact spec_l00Same.mono _ _ _
   | exact spec_l20Blocks.mono _ _ _
   | exact spec_l20Choices.mono _ _ _
   | exact spec_l20Vary.mono _ _ _ _ _
   | exact spec_l20Ways.mono _ _ _ _
   | exact LeO.none _
   | refine LeO.ite ?_ ?_
   | refine LeO.bind ?_ (fun _ => ?_)
  ·intro y0 y1 y2 y3 y4 y5 y6 y7 y8
   unfold spec_NumberedVariation.j2
   repeat' first
   | (with_reducible exact ih0 _ _ _ _ _ _ _)
   | (with_reducible exact ih1 _ _ _ _ _ _ _ _)
   | (with_reducible exact ih2 _ _ _ _ _ _ _ _ _)
   | (with_reducible exact spec_l00Same.mono _ _ _)
   | (with_reducible exact spec_l20Blocks.mono _ _ _)
   | (with_reducible exact spec_l20Choices.mono _ _ _)
   | (with_reducible exact spec_l20Vary.mono _ _ _ _ _)
   | (with_reducible exact spec_l20Ways.mono _ _ _ _)
   | (with_reducible exact LeO.refl _)
   | (with_reducible exact LeO.none _)
   | (with_reducible refine LeO.ite ?_ ?_)
   | (with_reducible refine LeO.bind ?_ (fun _ => ?_))
   | exact ih0 _ _ _ _ _ _ _
   | exact ih1 _ _ _ _ _ _ _ _
   | exact ih2 _ _ _ _ _ _ _ _ _
   | exact spec_l00Same.mono _ _ _
   | exact spec_l20Blocks.mono _ _ _
   | exact spec_l20Choices.mono _ _ _
   | exact spec_l20Vary.mono _ _ _ _ _
   | exact spec_l20Ways.mono _ _ _ _
   | exact LeO.none _
   | refine LeO.ite ?_ ?_
   | refine LeO.bind ?_ (fun _ => ?_)
theorem spec_NumberedVariation.mono : ∀ a0 a1 a2 a3 a4 k, LeO (spec_NumberedVariation.f k a0 a1 a2 a3 a4) (spec_NumberedVariation.f (k + 1) a0 a1 a2 a3 a4) := by
 intro a0 a1 a2 a3 a4 k
 obtain ⟨ih0, ih1, ih2⟩ := spec_NumberedVariation.mono_l k
 unfold spec_NumberedVariation.f
 repeat' first
   | (with_reducible exact ih0 _ _ _ _ _ _ _)
   | (with_reducible exact ih1 _ _ _ _ _ _ _ _)
   | (with_reducible exact ih2 _ _ _ _ _ _ _ _ _)
   | (with_reducible exact spec_l00Same.mono _ _ _)
   | (with_reducible exact spec_l20Blocks.mono _ _ _)
   | (with_reducible exact spec_l20Choices.mono _ _ _)
   | (with_reducible exact spec_l20Vary.mono _ _ _ _ _)
   | (with_reducible exact spec_l20Ways.mono _ _ _ _)
   | (with_reducible exact LeO.refl _)
   | (with_reducible exact LeO.none _)
   | (with_reducible refine LeO.ite ?_ ?_)
   | (with_reducible refine LeO.bind ?_ (fun _ => ?_))
   | exact ih0 _ _ _ _ _ _ _
   | exact ih1 _ _ _ _ _ _ _ _
   | exact ih2 _ _ _ _ _ _ _ _ _
   | exact spec_l00Same.mono _ _ _
   | exact spec_l20Blocks.mono _ _ _
   | exact spec_l20Choices.mono _ _ _
   | exact spec_l20Vary.mono _ _ _ _ _
   | exact spec_l20Ways.mono _ _ _ _
   | exact LeO.none _
   | refine LeO.ite ?_ ?_
   | refine LeO.bind ?_ (fun _ => ?_)
set_option maxHeartbeats 8000000 in
set_option maxRecDepth 100000 in
theorem spec_NumberedVariation.calls (k : Nat) (A0 : Option Addr) (c0 : Nat) (l0 : List (S66)) (A1 : Option Addr) (c1 : Nat) (l1 : List Int) (a2 : Int) (a3 : Int) (a4 : Int) (r1 : List Int) (r2 : Int) (w : World) (hr0 : Kd.C k66 w A0 l0.length l0) (hc0 : l0.length ≤ c0) (hr1 : Kd.C (Kd.int .i64) w A1 l1.length l1) (hc1 : l1.length ≤ c1) (h : spec_NumberedVariation.f k l0 l1 a2 a3 a4 = some (r1, r2)) :
  Calls Try.prog 18 #[.slice A0 l0.length c0, .slice A1 l1.length c1, .int .i64 a2, .int .i64 a3, .int .i64 a4] w fun e w' => ∃ v0_ : Value, e = .returned (.tuple #[v0_, .int .i64 r2]) ∧ Kd.R (Kd.int .i64) 2 w' w.heap.size (fun _ => True) v0_ r1 ∧ Below w.heap.size w w' := by
 have HR0 := Aside0.mk hr0
 have HC0 := Aside0.mk hc0
 clear hr0 hc0
 have HR1 := Aside0.mk hr1
 have HC1 := Aside0.mk hc1
 clear hr1 hc1
 have HB := Aside0.mk (Below.refl w.heap.size w)
 have H : ((spec_l20Vary.f k l0 l1 a2 a3).bind fun t246 => (if t246 = 0 then ((spec_l20Blocks.f k l1 a2).bind fun t247 => ((spec_l20Choices.f k l0 t247).bind fun t250 => ((spec_l20Ways.f k t247 t250 a3).bind fun t253 => (if 0 < (t253.length : Int) then (if 0 ≤ a3 then (if a3 < ((rd_L3 t253 0).length : Int) then (if (rd (rd_L3 t253 0) a3) > 20000 then (some (([] : List Int), 5)) else ((spec_l00In.f a4 0 (wrap64 ((rd (rd_L3 t253 0) a3) - 1))).bind fun t260 => (if t260 = true then (spec_NumberedVariation.l0 k a3 a4 t247 t250 t253 (([] : List Int)) 0) else (some (([] : List Int), 3))))) else (none)) else (none)) else (none))))) else (some (([] : List Int), t246)))) = some (r1, r2) := h
 clear h
 replace H := Option.bind_eq_some_iff.mp H
 obtain ⟨t246, A60, H⟩ := H
 replace H : (if t246 = 0 then ((spec_l20Blocks.f k l1 a2).bind fun t247 => ((spec_l20Choices.f k l0 t247).bind fun t250 => ((spec_l20Ways.f k t247 t250 a3).bind fun t253 => (if 0 < (t253.length : Int) then (if 0 ≤ a3 then (if a3 < ((rd_L3 t253 0).length : Int) then (if (rd (rd_L3 t253 0) a3) > 20000 then (some (([] : List Int), 5)) else ((spec_l00In.f a4 0 (wrap64 ((rd (rd_L3 t253 0) a3) - 1))).bind fun t260 => (if t260 = true then (spec_NumberedVariation.l0 k a3 a4 t247 t250 t253 (([] : List Int)) 0) else (some (([] : List Int), 3))))) else (none)) else (none)) else (none))))) else (some (([] : List Int), t246))) = some (r1, r2) := H
 have A6 := Aside0.mk A60
 clear A60
 by_cases c7 : t246 = 0
 ·rw [if_pos c7] at H
  have c7b0 : (t246 == 0) = true := beq_iff_eq.mpr c7
  have c7b1 : (t246 != 0) = false := bne_eq_false_iff_eq.mpr c7
  clear c7
  replace H := Option.bind_eq_some_iff.mp H
  obtain ⟨t247, A80, H⟩ := H
  replace H : ((spec_l20Choices.f k l0 t247).bind fun t250 => ((spec_l20Ways.f k t247 t250 a3).bind fun t253 => (if 0 < (t253.length : Int) then (if 0 ≤ a3 then (if a3 < ((rd_L3 t253 0).length : Int) then (if (rd (rd_L3 t253 0) a3) > 20000 then (some (([] : List Int), 5)) else ((spec_l00In.f a4 0 (wrap64 ((rd (rd_L3 t253 0) a3) - 1))).bind fun t260 => (if t260 = true then (spec_NumberedVariation.l0 k a3 a4 t247 t250 t253 (([] : List Int)) 0) else (some (([] : List Int), 3))))) else (none)) else (none)) else (none)))) = some (r1, r2) := H
  have A8 := Aside0.mk A80
  clear A80
  replace H := Option.bind_eq_some_iff.mp H
  obtain ⟨t250, A90, H⟩ := H
  replace H : ((spec_l20Ways.f k t247 t250 a3).bind fun t253 => (if 0 < (t253.length : Int) then (if 0 ≤ a3 then (if a3 < ((rd_L3 t253 0).length : Int) then (if (rd (rd_L3 t253 0) a3) > 20000 then (some (([] : List Int), 5)) else ((spec_l00In.f a4 0 (wrap64 ((rd (rd_L3 t253 0) a3) - 1))).bind fun t260 => (if t260 = true then (spec_NumberedVariation.l0 k a3 a4 t247 t250 t253 (([] : List Int)) 0) else (some (([] : List Int), 3))))) else (none)) else (none)) else (none))) = some (r1, r2) := H
  have A9 := Aside0.mk A90
  clear A90
  replace H := Option.bind_eq_some_iff.mp H
  obtain ⟨t253, A100, H⟩ := H
  replace H : (if 0 < (t253.length : Int) then (if 0 ≤ a3 then (if a3 < ((rd_L3 t253 0).length : Int) then (if (rd (rd_L3 t253 0) a3) > 20000 then (some (([] : List Int), 5)) else ((spec_l00In.f a4 0 (wrap64 ((rd (rd_L3 t253 0) a3) - 1))).bind fun t260 => (if t260 = true then (spec_NumberedVariation.l0 k a3 a4 t247 t250 t253 (([] : List Int)) 0) else (some (([] : List Int), 3))))) else (none)) else (none)) else (none)) = some (r1, r2) := H
  have A10 := Aside0.mk A100
  clear A100
  by_cases c11 : 0 < (t253.length : Int)
  ·rw [if_pos c11] at H
   have c11b0 : decide (0 < (t253.length : Int)) = true := decide_eq_true c11
   have c11b1 : decide (0 < t253.length) = true := decide_eq_true (by omega)
   clear c11
   by_cases c12 : 0 ≤ a3
   ·rw [if_pos c12] at H
    have c12b0 : decide (0 ≤ a3) = true := decide_eq_true c12
    clear c12
    by_cases c13 : a3 < ((rd_L3 t253 0).length : Int)
    ·rw [if_pos c13] at H
     have c13b0 : decide (a3 < ((rd_L3 t253 0).length : Int)) = true := decide_eq_true c13
     clear c13
     by_cases c14 : (rd (rd_L3 t253 0) a3) > 20000
     ·rw [if_pos c14] at H
      have c14b0 : decide (20000 < (rd (rd_L3 t253 0) a3)) = true := decide_eq_true c14
      clear c14
      simp only [Option.some.injEq, Prod.mk.injEq] at H
      obtain ⟨rfl, rfl⟩ := H
      go_enter Try.func18, Try.ntmps18
      go_wp2_with (first | (go_at_call 35; (with_reducible refine (spec_l20Vary.calls k _ _ l0 _ _ l1 a2 a3 t246 _ ?side1 ?side2 ?side3 ?side4 A6.out).mono ?_); (case side1 => repeat (first | exact HR0.out | (with_reducible refine Kd.C_alloc ?_ _) | (with_reducible refine Kd.C_drewN ?_ _) | (with_reducible refine Kd.C_drew ?_))); (case side2 => exact HC0.out); (case side3 => repeat (first | exact HR1.out | (with_reducible refine Kd.C_alloc ?_ _) | (with_reducible refine Kd.C_drewN ?_ _) | (with_reducible refine Kd.C_drew ?_))); (case side4 => exact HC1.out); rintro e w15 ⟨rfl, hb⟩; have n0_ := Aside0.mk (below_step (by repeat (first | exact HB.out | apply below_alloc | apply pw_below_drewN | apply below_drew1)) hb); clear HB; have HB := n0_; clear n0_; (try clear hb); (try clear hb2); (try clear hk); (try clear hi)) | (go_at_call 36; (with_reducible refine (spec_l20Blocks.calls k _ _ l1 a2 t247 _ ?side1 ?side2 A8.out).mono ?_); (case side1 => repeat (first | exact (Kd.C_below HR1.out HB.out) | (with_reducible refine Kd.C_alloc ?_ _) | (with_reducible refine Kd.C_drewN ?_ _) | (with_reducible refine Kd.C_drew ?_))); (case side2 => exact HC1.out); rintro e w16 ⟨v248, rfl, ho0, hb⟩; have n0_ := Aside0.mk (Kd.N_lower (Kd.N_mono (ok' := fun k_ => True) (Kd.S_N (Kd.S_bound ho0)) (fun k_ hk_ => trivial)) (below_size (by repeat (first | exact HB.out | apply below_alloc | apply pw_below_drewN | apply below_drew1)))); have n1_ := Aside0.mk (below_step (by repeat (first | exact HB.out | apply below_alloc | apply pw_below_drewN | apply below_drew1)) hb); clear HB; have HO249 := n0_; have HB := n1_; clear n0_ n1_; (try clear hb); (try clear hb2); (try clear hk); (try clear hi); (try clear ho0); obtain ⟨Ao17, co17, eo17⟩ := Kd.N_slice HO249.out; subst eo17) | (go_at_call 38; (with_reducible refine (spec_l20Choices.calls k _ _ l0 _ _ t247 t250 _ ?side1 ?side2 ?side3 ?side4 A9.out).mono ?_); (case side1 => repeat (first | exact (Kd.C_below HR0.out HB.out) | (with_reducible refine Kd.C_alloc ?_ _) | (with_reducible refine Kd.C_drewN ?_ _) | (with_reducible refine Kd.C_drew ?_))); (case side2 => exact HC0.out); (case side3 => repeat (first | exact (Kd.N_reads' HO249.out).2.2 | (with_reducible refine Kd.C_alloc ?_ _) | (with_reducible refine Kd.C_drewN ?_ _) | (with_reducible refine Kd.C_drew ?_))); (case side4 => exact (Kd.N_reads' HO249.out).2.1); rintro e w18 ⟨v251, rfl, ho0, hb⟩; have n0_ := Aside0.mk (Kd.N_elder' (by (with_reducible repeat (first | apply Kd.N_alloc | apply Kd.N_drewN | apply Kd.N_drew)); exact HO249.out) (by first | exact Kd.N_base ho0 | exact Kd.S_base ho0) hb); have n1_ := Aside0.mk (Kd.N_lower (Kd.N_mono (ok' := fun k_ => some k_ ≠ (.slice Ao17 t247.length co17 : Value).ownBlock) (Kd.S_N (Kd.S_bound ho0)) (fun k_ hk_ => (Kd.fresh' (Kd.N_lt (by (with_reducible repeat (first | apply Kd.N_alloc | apply Kd.N_drewN | apply Kd.N_drew)); exact HO249.out)) k_ hk_.2.1))) (below_size (by repeat (first | exact HB.out | apply below_alloc | apply pw_below_drewN | apply below_drew1)))); have n2_ := Aside0.mk (below_step (by repeat (first | exact HB.out | apply below_alloc | apply pw_below_drewN | apply below_drew1)) hb); clear HO249; clear HB; have HO249 := n0_; have HO252 := n1_; have HB := n2_; clear n0_ n1_ n2_; (try clear hb); (try clear hb2); (try clear hk); (try clear hi); (try clear ho0); obtain ⟨Ao19, co19, eo19⟩ := Kd.N_slice HO252.out; subst eo19) | (go_at_call 37; (with_reducible refine (spec_l20Ways.calls k _ _ t247 _ _ t250 a3 t253 _ ?side1 ?side2 ?side3 ?side4 A10.out).mono ?_); (case side1 => repeat (first | exact (Kd.N_reads' HO249.out).2.2 | (with_reducible refine Kd.C_alloc ?_ _) | (with_reducible refine Kd.C_drewN ?_ _) | (with_reducible refine Kd.C_drew ?_))); (case side2 => exact (Kd.N_reads' HO249.out).2.1); (case side3 => repeat (first | exact (Kd.N_reads' HO252.out).2.2 | (with_reducible refine Kd.C_alloc ?_ _) | (with_reducible refine Kd.C_drewN ?_ _) | (with_reducible refine Kd.C_drew ?_))); (case side4 => exact (Kd.N_reads' HO252.out).2.1); rintro e w20 ⟨v254, rfl, ho0, hb⟩; have n0_ := Aside0.mk (Kd.N_elder' (by (with_reducible repeat (first | apply Kd.N_alloc | apply Kd.N_drewN | apply Kd.N_drew)); exact HO249.out) (by first | exact Kd.N_base ho0 | exact Kd.S_base ho0) hb); have n1_ := Aside0.mk (Kd.N_elder' (by (with_reducible repeat (first | apply Kd.N_alloc | apply Kd.N_drewN | apply Kd.N_drew)); exact HO252.out) (by first | exact Kd.N_base ho0 | exact Kd.S_base ho0) hb); have n2_ := Aside0.mk (Kd.N_lower (Kd.N_mono (ok' := fun k_ => some k_ ≠ (.slice Ao17 t247.length co17 : Value).ownBlock ∧ some k_ ≠ (.slice Ao19 t250.length co19 : Value).ownBlock) ho0 (fun k_ hk_ => ⟨(Kd.fresh' (Kd.N_lt (by (with_reducible repeat (first | apply Kd.N_alloc | apply Kd.N_drewN | apply Kd.N_drew)); exact HO249.out)) k_ hk_), (Kd.fresh' (Kd.N_lt (by (with_reducible repeat (first | apply Kd.N_alloc | apply Kd.N_drewN | apply Kd.N_drew)); exact HO252.out)) k_ hk_)⟩)) (below_size (by repeat (first | exact HB.out | apply below_alloc | apply pw_below_drewN | apply below_drew1)))); have n3_ := Aside0.mk (below_step (by repeat (first | exact HB.out | apply below_alloc | apply pw_below_drewN | apply below_drew1)) hb); clear HO249; clear HO252; clear HB; have HO249 := n0_; have HO252 := n1_; have HO255 := n2_; have HB := n3_; clear n0_ n1_ n2_ n3_; (try clear hb); (try clear hb2); (try clear hk); (try clear hi); (try clear ho0); obtain ⟨Ao21, co21, eo21⟩ := Kd.N_slice HO255.out; subst eo21; have p256 : 0 ≤ (0 : Int) := (by omega); have q256 : 0 < (t253.length : Int) := of_decide_eq_true (by assumption); obtain ⟨ad256, A256_0, c256_0, e256, hx256_0, hl256_0, hi256_0⟩ := at_L3 (Kd.N_reads' HO255.out).2.2 0 p256 q256; cases e256; obtain ⟨ce256, hce256, hMe256, hcc256⟩ := Kd.N_get HO255.out [] 0 p256 (by first | exact q256 | exact of_decide_eq_true (by assumption) | (have e_ := (Kd.N_reads' HO255.out).1; omega)); obtain ⟨ua256_0, uc256_0, rfl, ul256_0, ge256_0⟩ := Kd.FK_slice_open hMe256; have hv256_0 := hcc256 0 _ rfl; rw [Nat.add_zero, show ((Kd.slice 2 (Kd.int .i64))).sz = 1 from rfl, Nat.mul_one] at hv256_0; replace hv256_0 := Option.some.inj (hv256_0.symm.trans hx256_0); injection hv256_0 with hva_ hvn_ hvc_; rw [hva_] at ge256_0; rw [hvc_] at ul256_0; have HL256_0 := Aside0.mk (show Kd.V (Kd.int .i64) 2 _ w.heap.size _ _ (rd_L3 t253 0) from Kd.V_mk ul256_0 ge256_0); clear hva_ hvn_ hvc_ ge256_0 ul256_0; clear hcc256 hce256; have qi256 : (0 < t253.length) = True := eq_true (by omega); (try rw [show ((0 : Int)).toNat = 0 from rfl] at hx256_0); (try rw [Addr.add_zero'] at hx256_0); have HR256_0 := Aside0.mk hi256_0; have HC256_0 := Aside0.mk hl256_0; clear hi256_0 hl256_0; replace p256 := eq_true p256; replace q256 := eq_true q256; have p257 : 0 ≤ (a3 : Int) := of_decide_eq_true (by assumption); have q257 : a3 < ((rd_L3 t253 0).length : Int) := of_decide_eq_true (by assumption); obtain ⟨ad257, e257, hx257_0⟩ := Kd.at_int (by repeat (first | (with_reducible exact HR256_0.out) | (with_reducible refine Kd.C_alloc ?_ _) | (with_reducible refine Kd.C_drewN ?_ _) | (with_reducible refine Kd.C_drew ?_) | exact HR256_0.out)) a3 p257 q257; cases e257; replace p257 := eq_true p257; replace q257 := eq_true q257))
      repeat (go_quiet (first | (go_at_call 35; (with_reducible refine (spec_l20Vary.calls k _ _ l0 _ _ l1 a2 a3 t246 _ ?side1 ?side2 ?side3 ?side4 A6.out).mono ?_); (case side1 => repeat (first | exact HR0.out | (with_reducible refine Kd.C_alloc ?_ _) | (with_reducible refine Kd.C_drewN ?_ _) | (with_reducible refine Kd.C_drew ?_))); (case side2 => exact HC0.out); (case side3 => repeat (first | exact HR1.out | (with_reducible refine Kd.C_alloc ?_ _) | (with_reducible refine Kd.C_drewN ?_ _) | (with_reducible refine Kd.C_drew ?_))); (case side4 => exact HC1.out); rintro e w15 ⟨rfl, hb⟩; have n0_ := Aside0.mk (below_step (by repeat (first | exact HB.out | apply below_alloc | apply pw_below_drewN | apply below_drew1)) hb); clear HB; have HB := n0_; clear n0_; (try clear hb); (try clear hb2); (try clear hk); (try clear hi)) | (go_at_call 36; (with_reducible refine (spec_l20Blocks.calls k _ _ l1 a2 t247 _ ?side1 ?side2 A8.out).mono ?_); (case side1 => repeat (first | exact (Kd.C_below HR1.out HB.out) | (with_reducible refine Kd.C_alloc ?_ _) | (with_reducible refine Kd.C_drewN ?_ _) | (with_reducible refine Kd.C_drew ?_))); (case side2 => exact HC1.out); rintro e w16 ⟨v248, rfl, ho0, hb⟩; have n0_ := Aside0.mk (Kd.N_lower (Kd.N_mono (ok' := fun k_ => True) (Kd.S_N (Kd.S_bound ho0)) (fun k_ hk_ => trivial)) (below_size (by repeat (first | exact HB.out | apply below_alloc | apply pw_below_drewN | apply below_drew1)))); have n1_ := Aside0.mk (below_step (by repeat (first | exact HB.out | apply below_alloc | apply pw_below_drewN | apply below_drew1)) hb); clear HB; have HO249 := n0_; have HB := n1_; clear n0_ n1_; (try clear hb); (try clear hb2); (try clear hk); (try clear hi); (try clear ho0); obtain ⟨Ao17, co17, eo17⟩ := Kd.N_slice HO249.out; subst eo17) | (go_at_call 38; (with_reducible refine (spec_l20Choices.calls k _ _ l0 _ _ t247 t250 _ ?side1 ?side2 ?side3 ?side4 A9.out).mono ?_); (case side1 => repeat (first | exact (Kd.C_below HR0.out HB.out) | (with_reducible refine Kd.C_alloc ?_ _) | (with_reducible refine Kd.C_drewN ?_ _) | (with_reducible refine Kd.C_drew ?_))); (case side2 => exact HC0.out); (case side3 => repeat (first | exact (Kd.N_reads' HO249.out).2.2 | (with_reducible refine Kd.C_alloc ?_ _) | (with_reducible refine Kd.C_drewN ?_ _) | (with_reducible refine Kd.C_drew ?_))); (case side4 => exact (Kd.N_reads' HO249.out).2.1); rintro e w18 ⟨v251, rfl, ho0, hb⟩; have n0_ := Aside0.mk (Kd.N_elder' (by (with_reducible repeat (first | apply Kd.N_alloc | apply Kd.N_drewN | apply Kd.N_drew)); exact HO249.out) (by first | exact Kd.N_base ho0 | exact Kd.S_base ho0) hb); have n1_ := Aside0.mk (Kd.N_lower (Kd.N_mono (ok' := fun k_ => some k_ ≠ (.slice Ao17 t247.length co17 : Value).ownBlock) (Kd.S_N (Kd.S_bound ho0)) (fun k_ hk_ => (Kd.fresh' (Kd.N_lt (by (with_reducible repeat (first | apply Kd.N_alloc | apply Kd.N_drewN | apply Kd.N_drew)); exact HO249.out)) k_ hk_.2.1))) (below_size (by repeat (first | exact HB.out | apply below_alloc | apply pw_below_drewN | apply below_drew1)))); have n2_ := Aside0.mk (below_step (by repeat (first | exact HB.out | apply below_alloc | apply pw_below_drewN | apply below_drew1)) hb); clear HO249; clear HB; have HO249 := n0_; have HO252 := n1_; have HB := n2_; clear n0_ n1_ n2_; (try clear hb); (try clear hb2); (try clear hk); (try clear hi); (try clear ho0); obtain ⟨Ao19, co19, eo19⟩ := Kd.N_slice HO252.out; subst eo19) | (go_at_call 37; (with_reducible refine (spec_l20Ways.calls k _ _ t247 _ _ t250 a3 t253 _ ?side1 ?side2 ?side3 ?side4 A10.out).mono ?_); (case side1 => repeat (first | exact (Kd.N_reads' HO249.out).2.2 | (with_reducible refine Kd.C_alloc ?_ _) | (with_reducible refine Kd.C_drewN ?_ _) | (with_reducible refine Kd.C_drew ?_))); (case side2 => exact (Kd.N_reads' HO249.out).2.1); (case side3 => repeat (first | exact (Kd.N_reads' HO252.out).2.2 | (with_reducible refine Kd.C_alloc ?_ _) | (with_reducible refine Kd.C_drewN ?_ _) | (with_reducible refine Kd.C_drew ?_))); (case side4 => exact (Kd.N_reads' HO252.out).2.1); rintro e w20 ⟨v254, rfl, ho0, hb⟩; have n0_ := Aside0.mk (Kd.N_elder' (by (with_reducible repeat (first | apply Kd.N_alloc | apply Kd.N_drewN | apply Kd.N_drew)); exact HO249.out) (by first | exact Kd.N_base ho0 | exact Kd.S_base ho0) hb); have n1_ := Aside0.mk (Kd.N_elder' (by (with_reducible repeat (first | apply Kd.N_alloc | apply Kd.N_drewN | apply Kd.N_drew)); exact HO252.out) (by first | exact Kd.N_base ho0 | exact Kd.S_base ho0) hb); have n2_ := Aside0.mk (Kd.N_lower (Kd.N_mono (ok' := fun k_ => some k_ ≠ (.slice Ao17 t247.length co17 : Value).ownBlock ∧ some k_ ≠ (.slice Ao19 t250.length co19 : Value).ownBlock) ho0 (fun k_ hk_ => ⟨(Kd.fresh' (Kd.N_lt (by (with_reducible repeat (first | apply Kd.N_alloc | apply Kd.N_drewN | apply Kd.N_drew)); exact HO249.out)) k_ hk_), (Kd.fresh' (Kd.N_lt (by (with_reducible repeat (first | apply Kd.N_alloc | apply Kd.N_drewN | apply Kd.N_drew)); exact HO252.out)) k_ hk_)⟩)) (below_size (by repeat (first | exact HB.out | apply below_alloc | apply pw_below_drewN | apply below_drew1)))); have n3_ := Aside0.mk (below_step (by repeat (first | exact HB.out | apply below_alloc | apply pw_below_drewN | apply below_drew1)) hb); clear HO249; clear HO252; clear HB; have HO249 := n0_; have HO252 := n1_; have HO255 := n2_; have HB := n3_; clear n0_ n1_ n2_ n3_; (try clear hb); (try clear hb2); (try clear hk); (try clear hi); (try clear ho0); obtain ⟨Ao21, co21, eo21⟩ := Kd.N_slice HO255.out; subst eo21; have p256 : 0 ≤ (0 : Int) := (by omega); have q256 : 0 < (t253.length : Int) := of_decide_eq_true (by assumption); obtain ⟨ad256, A256_0, c256_0, e256, hx256_0, hl256_0, hi256_0⟩ := at_L3 (Kd.N_reads' HO255.out).2.2 0 p256 q256; cases e256; obtain ⟨ce256, hce256, hMe256, hcc256⟩ := Kd.N_get HO255.out [] 0 p256 (by first | exact q256 | exact of_decide_eq_true (by assumption) | (have e_ := (Kd.N_reads' HO255.out).1; omega)); obtain ⟨ua256_0, uc256_0, rfl, ul256_0, ge256_0⟩ := Kd.FK_slice_open hMe256; have hv256_0 := hcc256 0 _ rfl; rw [Nat.add_zero, show ((Kd.slice 2 (Kd.int .i64))).sz = 1 from rfl, Nat.mul_one] at hv256_0; replace hv256_0 := Option.some.inj (hv256_0.symm.trans hx256_0); injection hv256_0 with hva_ hvn_ hvc_; rw [hva_] at ge256_0; rw [hvc_] at ul256_0; have HL256_0 := Aside0.mk (show Kd.V (Kd.int .i64) 2 _ w.heap.size _ _ (rd_L3 t253 0) from Kd.V_mk ul256_0 ge256_0); clear hva_ hvn_ hvc_ ge256_0 ul256_0; clear hcc256 hce256; have qi256 : (0 < t253.length) = True := eq_true (by omega); (try rw [show ((0 : Int)).toNat = 0 from rfl] at hx256_0); (try rw [Addr.add_zero'] at hx256_0); have HR256_0 := Aside0.mk hi256_0; have HC256_0 := Aside0.mk hl256_0; clear hi256_0 hl256_0; replace p256 := eq_true p256; replace q256 := eq_true q256; have p257 : 0 ≤ (a3 : Int) := of_decide_eq_true (by assumption); have q257 : a3 < ((rd_L3 t253 0).length : Int) := of_decide_eq_true (by assumption); obtain ⟨ad257, e257, hx257_0⟩ := Kd.at_int (by repeat (first | (with_reducible exact HR256_0.out) | (with_reducible refine Kd.C_alloc ?_ _) | (with_reducible refine Kd.C_drewN ?_ _) | (with_reducible refine Kd.C_drew ?_) | exact HR256_0.out)) a3 p257 q257; cases e257; replace p257 := eq_true p257; replace q257 := eq_true q257)); try go_wp2_with (first | (go_at_call 35; (with_reducible refine (spec_l20Vary.calls k _ _ l0 _ _ l1 a2 a3 t246 _ ?side1 ?side2 ?side3 ?side4 A6.out).mono ?_); (case side1 => repeat (first | exact HR0.out | (with_reducible refine Kd.C_alloc ?_ _) | (with_reducible refine Kd.C_drewN ?_ _) | (with_reducible refine Kd.C_drew ?_))); (case side2 => exact HC0.out); (case side3 => repeat (first | exact HR1.out | (with_reducible refine Kd.C_alloc ?_ _) | (with_reducible refine Kd.C_drewN ?_ _) | (with_reducible refine Kd.C_drew ?_))); (case side4 => exact HC1.out); rintro e w15 ⟨rfl, hb⟩; have n0_ := Aside0.mk (below_step (by repeat (first | exact HB.out | apply below_alloc | apply pw_below_drewN | apply below_drew1)) hb); clear HB; have HB := n0_; clear n0_; (try clear hb); (try clear hb2); (try clear hk); (try clear hi)) | (go_at_call 36; (with_reducible refine (spec_l20Blocks.calls k _ _ l1 a2 t247 _ ?side1 ?side2 A8.out).mono ?_); (case side1 => repeat (first | exact (Kd.C_below HR1.out HB.out) | (with_reducible refine Kd.C_alloc ?_ _) | (with_reducible refine Kd.C_drewN ?_ _) | (with_reducible refine Kd.C_drew ?_))); (case side2 => exact HC1.out); rintro e w16 ⟨v248, rfl, ho0, hb⟩; have n0_ := Aside0.mk (Kd.N_lower (Kd.N_mono (ok' := fun k_ => True) (Kd.S_N (Kd.S_bound ho0)) (fun k_ hk_ => trivial)) (below_size (by repeat (first | exact HB.out | apply below_alloc | apply pw_below_drewN | apply below_drew1)))); have n1_ := Aside0.mk (below_step (by repeat (first | exact HB.out | apply below_alloc | apply pw_below_drewN | apply below_drew1)) hb); clear HB; have HO249 := n0_; have HB := n1_; clear n0_ n1_; (try clear hb); (try clear hb2); (try clear hk); (try clear hi); (try clear ho0); obtain ⟨Ao17, co17, eo17⟩ := Kd.N_slice HO249.out; subst eo17) | (go_at_call 38; (with_reducible refine (spec_l20Choices.calls k _ _ l0 _ _ t247 t250 _ ?side1 ?side2 ?side3 ?side4 A9.out).mono ?_); (case side1 => repeat (first | exact (Kd.C_below HR0.out HB.out) | (with_reducible refine Kd.C_alloc ?_ _) | (with_reducible refine Kd.C_drewN ?_ _) | (with_reducible refine Kd.C_drew ?_))); (case side2 => exact HC0.out); (case side3 => repeat (first | exact (Kd.N_reads' HO249.out).2.2 | (with_reducible refine Kd.C_alloc ?_ _) | (with_reducible refine Kd.C_drewN ?_ _) | (with_reducible refine Kd.C_drew ?_))); (case side4 => exact (Kd.N_reads' HO249.out).2.1); rintro e w18 ⟨v251, rfl, ho0, hb⟩; have n0_ := Aside0.mk (Kd.N_elder' (by (with_reducible repeat (first | apply Kd.N_alloc | apply Kd.N_drewN | apply Kd.N_drew)); exact HO249.out) (by first | exact Kd.N_base ho0 | exact Kd.S_base ho0) hb); have n1_ := Aside0.mk (Kd.N_lower (Kd.N_mono (ok' := fun k_ => some k_ ≠ (.slice Ao17 t247.length co17 : Value).ownBlock) (Kd.S_N (Kd.S_bound ho0)) (fun k_ hk_ => (Kd.fresh' (Kd.N_lt (by (with_reducible repeat (first | apply Kd.N_alloc | apply Kd.N_drewN | apply Kd.N_drew)); exact HO249.out)) k_ hk_.2.1))) (below_size (by repeat (first | exact HB.out | apply below_alloc | apply pw_below_drewN | apply below_drew1)))); have n2_ := Aside0.mk (below_step (by repeat (first | exact HB.out | apply below_alloc | apply pw_below_drewN | apply below_drew1)) hb); clear HO249; clear HB; have HO249 := n0_; have HO252 := n1_; have HB := n2_; clear n0_ n1_ n2_; (try clear hb); (try clear hb2); (try clear hk); (try clear hi); (try clear ho0); obtain ⟨Ao19, co19, eo19⟩ := Kd.N_slice HO252.out; subst eo19) | (go_at_call 37; (with_reducible refine (spec_l20Ways.calls k _ _ t247 _ _ t250 a3 t253 _ ?side1 ?side2 ?side3 ?side4 A10.out).mono ?_); (case side1 => repeat (first | exact (Kd.N_reads' HO249.out).2.2 | (with_reducible refine Kd.C_alloc ?_ _) | (with_reducible refine Kd.C_drewN ?_ _) | (with_reducible refine Kd.C_drew ?_))); (case side2 => exact (Kd.N_reads' HO249.out).2.1); (case side3 => repeat (first | exact (Kd.N_reads' HO252.out).2.2 | (with_reducible refine Kd.C_alloc ?_ _) | (with_reducible refine Kd.C_drewN ?_ _) | (with_reducible refine Kd.C_drew ?_))); (case side4 => exact (Kd.N_reads' HO252.out).2.1); rintro e w20 ⟨v254, rfl, ho0, hb⟩; have n0_ := Aside0.mk (Kd.N_elder' (by (with_reducible repeat (first | apply Kd.N_alloc | apply Kd.N_drewN | apply Kd.N_drew)); exact HO249.out) (by first | exact Kd.N_base ho0 | exact Kd.S_base ho0) hb); have n1_ := Aside0.mk (Kd.N_elder' (by (with_reducible repeat (first | apply Kd.N_alloc | apply Kd.N_drewN | apply Kd.N_drew)); exact HO252.out) (by first | exact Kd.N_base ho0 | exact Kd.S_base ho0) hb); have n2_ := Aside0.mk (Kd.N_lower (Kd.N_mono (ok' := fun k_ => some k_ ≠ (.slice Ao17 t247.length co17 : Value).ownBlock ∧ some k_ ≠ (.slice Ao19 t250.length co19 : Value).ownBlock) ho0 (fun k_ hk_ => ⟨(Kd.fresh' (Kd.N_lt (by (with_reducible repeat (first | apply Kd.N_alloc | apply Kd.N_drewN | apply Kd.N_drew)); exact HO249.out)) k_ hk_), (Kd.fresh' (Kd.N_lt (by (with_reducible repeat (first | apply Kd.N_alloc | apply Kd.N_drewN | apply Kd.N_drew)); exact HO252.out)) k_ hk_)⟩)) (below_size (by repeat (first | exact HB.out | apply below_alloc | apply pw_below_drewN | apply below_drew1)))); have n3_ := Aside0.mk (below_step (by repeat (first | exact HB.out | apply below_alloc | apply pw_below_drewN | apply below_drew1)) hb); clear HO249; clear HO252; clear HB; have HO249 := n0_; have HO252 := n1_; have HO255 := n2_; have HB := n3_; clear n0_ n1_ n2_ n3_; (try clear hb); (try clear hb2); (try clear hk); (try clear hi); (try clear ho0); obtain ⟨Ao21, co21, eo21⟩ := Kd.N_slice HO255.out; subst eo21; have p256 : 0 ≤ (0 : Int) := (by omega); have q256 : 0 < (t253.length : Int) := of_decide_eq_true (by assumption); obtain ⟨ad256, A256_0, c256_0, e256, hx256_0, hl256_0, hi256_0⟩ := at_L3 (Kd.N_reads' HO255.out).2.2 0 p256 q256; cases e256; obtain ⟨ce256, hce256, hMe256, hcc256⟩ := Kd.N_get HO255.out [] 0 p256 (by first | exact q256 | exact of_decide_eq_true (by assumption) | (have e_ := (Kd.N_reads' HO255.out).1; omega)); obtain ⟨ua256_0, uc256_0, rfl, ul256_0, ge256_0⟩ := Kd.FK_slice_open hMe256; have hv256_0 := hcc256 0 _ rfl; rw [Nat.add_zero, show ((Kd.slice 2 (Kd.int .i64))).sz = 1 from rfl, Nat.mul_one] at hv256_0; replace hv256_0 := Option.some.inj (hv256_0.symm.trans hx256_0); injection hv256_0 with hva_ hvn_ hvc_; rw [hva_] at ge256_0; rw [hvc_] at ul256_0; have HL256_0 := Aside0.mk (show Kd.V (Kd.int .i64) 2 _ w.heap.size _ _ (rd_L3 t253 0) from Kd.V_mk ul256_0 ge256_0); clear hva_ hvn_ hvc_ ge256_0 ul256_0; clear hcc256 hce256; have qi256 : (0 < t253.length) = True := eq_true (by omega); (try rw [show ((0 : Int)).toNat = 0 from rfl] at hx256_0); (try rw [Addr.add_zero'] at hx256_0); have HR256_0 := Aside0.mk hi256_0; have HC256_0 := Aside0.mk hl256_0; clear hi256_0 hl256_0; replace p256 := eq_true p256; replace q256 := eq_true q256; have p257 : 0 ≤ (a3 : Int) := of_decide_eq_true (by assumption); have q257 : a3 < ((rd_L3 t253 0).length : Int) := of_decide_eq_true (by assumption); obtain ⟨ad257, e257, hx257_0⟩ := Kd.at_int (by repeat (first | (with_reducible exact HR256_0.out) | (with_reducible refine Kd.C_alloc ?_ _) | (with_reducible refine Kd.C_drewN ?_ _) | (with_reducible refine Kd.C_drew ?_) | exact HR256_0.out)) a3 p257 q257; cases e257; replace p257 := eq_true p257; replace q257 := eq_true q257)))
      go_ret2
      exact ⟨_, by first | rfl | (simp [errW_none, errW_some] <;> rfl) | (simp [*, errW_none, errW_some] <;> rfl), by first | exact Kd.R_nil _ _ _ _ _ | exact Kd.N_nil _ _ _ _ _ | exact Kd.V_nil _ _ _ _ _ | exact Kd.Q_nil _ _ _ _ _ | exact Kd.S_nil _ _ _ _ _, by repeat (first | exact HB.out | apply below_alloc | apply pw_below_drewN | apply below_drew1)⟩
     ·rw [if_neg c14] at H
      have c14b0 : decide (20000 < (rd (rd_L3 t253 0) a3)) = false := decide_eq_false c14
      clear c14
      replace H := Option.bind_eq_some_iff.mp H
      obtain ⟨t260, A220, H⟩ := H
      replace H : (if t260 = true then (spec_NumberedVariation.l0 k a3 a4 t247 t250 t253 (([] : List Int)) 0) else (some (([] : List Int), 3))) = some (r1, r2) := H
      have A22 := Aside0.mk A220
      clear A220
      by_cases c23 : t260 = true
      ·subst c23
       have H1 : (spec_NumberedVariation.l0 k a3 a4 t247 t250 t253 (([] : List Int)) 0) = some (r1, r2) := by rw [if_pos rfl] at H; exact H
       clear H
       have H := H1
       clear H1
       obtain ⟨y261, hy261⟩ : ∃ y_ : List Int, y_ = (([] : List Int)) := ⟨_, rfl⟩
       replace H : (spec_NumberedVariation.l0 k a3 a4 t247 t250 t253 y261 0) = some (r1, r2) := by first | (rw [hy261]; with_reducible exact H) | (have H2_ := (Option.bind_some _ _).symm.trans H; rw [hy261]; with_reducible exact H2_) | (have H2_ := (Option.bind_some _ _).symm.trans H; with_reducible exact H2_) | with_reducible exact H | (rw [hy261]; exact H) | exact H
       have Ny261 := Aside0.mk hy261
       clear hy261
       have H' := Aside0.mk H
       clear H
       go_enter Try.func18, Try.ntmps18
       go_wp2_with (first | (go_at_call 35; (with_reducible refine (spec_l20Vary.calls k _ _ l0 _ _ l1 a2 a3 t246 _ ?side1 ?side2 ?side3 ?side4 A6.out).mono ?_); (case side1 => repeat (first | exact HR0.out | (with_reducible refine Kd.C_alloc ?_ _) | (with_reducible refine Kd.C_drewN ?_ _) | (with_reducible refine Kd.C_drew ?_))); (case side2 => exact HC0.out); (case side3 => repeat (first | exact HR1.out | (with_reducible refine Kd.C_alloc ?_ _) | (with_reducible refine Kd.C_drewN ?_ _) | (with_reducible refine Kd.C_drew ?_))); (case side4 => exact HC1.out); rintro e w24 ⟨rfl, hb⟩; have n0_ := Aside0.mk (below_step (by repeat (first | exact HB.out | apply below_alloc | apply pw_below_drewN | apply below_drew1)) hb); clear HB; have HB := n0_; clear n0_; (try clear hb); (try clear hb2); (try clear hk); (try clear hi)) | (go_at_call 36; (with_reducible refine (spec_l20Blocks.calls k _ _ l1 a2 t247 _ ?side1 ?side2 A8.out).mono ?_); (case side1 => repeat (first | exact (Kd.C_below HR1.out HB.out) | (with_reducible refine Kd.C_alloc ?_ _) | (with_reducible refine Kd.C_drewN ?_ _) | (with_reducible refine Kd.C_drew ?_))); (case side2 => exact HC1.out); rintro e w25 ⟨v248, rfl, ho0, hb⟩; have n0_ := Aside0.mk (Kd.N_lower (Kd.N_mono (ok' := fun k_ => True) (Kd.S_N (Kd.S_bound ho0)) (fun k_ hk_ => trivial)) (below_size (by repeat (first | exact HB.out | apply below_alloc | apply pw_below_drewN | apply below_drew1)))); have n1_ := Aside0.mk (below_step (by repeat (first | exact HB.out | apply below_alloc | apply pw_below_drewN | apply below_drew1)) hb); clear HB; have HO249 := n0_; have HB := n1_; clear n0_ n1_; (try clear hb); (try clear hb2); (try clear hk); (try clear hi); (try clear ho0); obtain ⟨Ao26, co26, eo26⟩ := Kd.N_slice HO249.out; subst eo26) | (go_at_call 38; (with_reducible refine (spec_l20Choices.calls k _ _ l0 _ _ t247 t250 _ ?side1 ?side2 ?side3 ?side4 A9.out).mono ?_); (case side1 => repeat (first | exact (Kd.C_below HR0.out HB.out) | (with_reducible refine Kd.C_alloc ?_ _) | (with_reducible refine Kd.C_drewN ?_ _) | (with_reducible refine Kd.C_drew ?_))); (case side2 => exact HC0.out); (case side3 => repeat (first | exact (Kd.N_reads' HO249.out).2.2 | (with_reducible refine Kd.C_alloc ?_ _) | (with_reducible refine Kd.C_drewN ?_ _) | (with_reducible refine Kd.C_drew ?_))); (case side4 => exact (Kd.N_reads' HO249.out).2.1); rintro e w27 ⟨v251, rfl, ho0, hb⟩; have n0_ := Aside0.mk (Kd.N_elder' (by (with_reducible repeat (first | apply Kd.N_alloc | apply Kd.N_drewN | apply Kd.N_drew)); exact HO249.out) (by first | exact Kd.N_base ho0 | exact Kd.S_base ho0) hb); have n1_ := Aside0.mk (Kd.N_lower (Kd.N_mono (ok' := fun k_ => some k_ ≠ (.slice Ao26 t247.length co26 : Value).ownBlock) (Kd.S_N (Kd.S_bound ho0)) (fun k_ hk_ => (Kd.fresh' (Kd.N_lt (by (with_reducible repeat (first | apply Kd.N_alloc | apply Kd.N_drewN | apply Kd.N_drew)); exact HO249.out)) k_ hk_.2.1))) (below_size (by repeat (first | exact HB.out | apply below_alloc | apply pw_below_drewN | apply below_drew1)))); have n2_ := Aside0.mk (below_step (by repeat (first | exact HB.out | apply below_alloc | apply pw_below_drewN | apply below_drew1)) hb); clear HO249; clear HB; have HO249 := n0_; have HO252 := n1_; have HB := n2_; clear n0_ n1_ n2_; (try clear hb); (try clear hb2); (try clear hk); (try clear hi); (try clear ho0); obtain ⟨Ao28, co28, eo28⟩ := Kd.N_slice HO252.out; subst eo28) | (go_at_call 37; (with_reducible refine (spec_l20Ways.calls k _ _ t247 _ _ t250 a3 t253 _ ?side1 ?side2 ?side3 ?side4 A10.out).mono ?_); (case side1 => repeat (first | exact (Kd.N_reads' HO249.out).2.2 | (with_reducible refine Kd.C_alloc ?_ _) | (with_reducible refine Kd.C_drewN ?_ _) | (with_reducible refine Kd.C_drew ?_))); (case side2 => exact (Kd.N_reads' HO249.out).2.1); (case side3 => repeat (first | exact (Kd.N_reads' HO252.out).2.2 | (with_reducible refine Kd.C_alloc ?_ _) | (with_reducible refine Kd.C_drewN ?_ _) | (with_reducible refine Kd.C_drew ?_))); (case side4 => exact (Kd.N_reads' HO252.out).2.1); rintro e w29 ⟨v254, rfl, ho0, hb⟩; have n0_ := Aside0.mk (Kd.N_elder' (by (with_reducible repeat (first | apply Kd.N_alloc | apply Kd.N_drewN | apply Kd.N_drew)); exact HO249.out) (by first | exact Kd.N_base ho0 | exact Kd.S_base ho0) hb); have n1_ := Aside0.mk (Kd.N_elder' (by (with_reducible repeat (first | apply Kd.N_alloc | apply Kd.N_drewN | apply Kd.N_drew)); exact HO252.out) (by first | exact Kd.N_base ho0 | exact Kd.S_base ho0) hb); have n2_ := Aside0.mk (Kd.N_lower (Kd.N_mono (ok' := fun k_ => some k_ ≠ (.slice Ao26 t247.length co26 : Value).ownBlock ∧ some k_ ≠ (.slice Ao28 t250.length co28 : Value).ownBlock) ho0 (fun k_ hk_ => ⟨(Kd.fresh' (Kd.N_lt (by (with_reducible repeat (first | apply Kd.N_alloc | apply Kd.N_drewN | apply Kd.N_drew)); exact HO249.out)) k_ hk_), (Kd.fresh' (Kd.N_lt (by (with_reducible repeat (first | apply Kd.N_alloc | apply Kd.N_drewN | apply Kd.N_drew)); exact HO252.out)) k_ hk_)⟩)) (below_size (by repeat (first | exact HB.out | apply below_alloc | apply pw_below_drewN | apply below_drew1)))); have n3_ := Aside0.mk (below_step (by repeat (first | exact HB.out | apply below_alloc | apply pw_below_drewN | apply below_drew1)) hb); clear HO249; clear HO252; clear HB; have HO249 := n0_; have HO252 := n1_; have HO255 := n2_; have HB := n3_; clear n0_ n1_ n2_ n3_; (try clear hb); (try clear hb2); (try clear hk); (try clear hi); (try clear ho0); obtain ⟨Ao30, co30, eo30⟩ := Kd.N_slice HO255.out; subst eo30; have p256 : 0 ≤ (0 : Int) := (by omega); have q256 : 0 < (t253.length : Int) := of_decide_eq_true (by assumption); obtain ⟨ad256, A256_0, c256_0, e256, hx256_0, hl256_0, hi256_0⟩ := at_L3 (Kd.N_reads' HO255.out).2.2 0 p256 q256; cases e256; obtain ⟨ce256, hce256, hMe256, hcc256⟩ := Kd.N_get HO255.out [] 0 p256 (by first | exact q256 | exact of_decide_eq_true (by assumption) | (have e_ := (Kd.N_reads' HO255.out).1; omega)); obtain ⟨ua256_0, uc256_0, rfl, ul256_0, ge256_0⟩ := Kd.FK_slice_open hMe256; have hv256_0 := hcc256 0 _ rfl; rw [Nat.add_zero, show ((Kd.slice 2 (Kd.int .i64))).sz = 1 from rfl, Nat.mul_one] at hv256_0; replace hv256_0 := Option.some.inj (hv256_0.symm.trans hx256_0); injection hv256_0 with hva_ hvn_ hvc_; rw [hva_] at ge256_0; rw [hvc_] at ul256_0; have HL256_0 := Aside0.mk (show Kd.V (Kd.int .i64) 2 _ w.heap.size _ _ (rd_L3 t253 0) from Kd.V_mk ul256_0 ge256_0); clear hva_ hvn_ hvc_ ge256_0 ul256_0; clear hcc256 hce256; have qi256 : (0 < t253.length) = True := eq_true (by omega); (try rw [show ((0 : Int)).toNat = 0 from rfl] at hx256_0); (try rw [Addr.add_zero'] at hx256_0); have HR256_0 := Aside0.mk hi256_0; have HC256_0 := Aside0.mk hl256_0; clear hi256_0 hl256_0; replace p256 := eq_true p256; replace q256 := eq_true q256; have p257 : 0 ≤ (a3 : Int) := of_decide_eq_true (by assumption); have q257 : a3 < ((rd_L3 t253 0).length : Int) := of_decide_eq_true (by assumption); obtain ⟨ad257, e257, hx257_0⟩ := Kd.at_int (by repeat (first | (with_reducible exact HR256_0.out) | (with_reducible refine Kd.C_alloc ?_ _) | (with_reducible refine Kd.C_drewN ?_ _) | (with_reducible refine Kd.C_drew ?_) | exact HR256_0.out)) a3 p257 q257; cases e257; replace p257 := eq_true p257; replace q257 := eq_true q257; have p258 : 0 ≤ (0 : Int) := (by omega); have q258 : 0 < (t253.length : Int) := of_decide_eq_true (by assumption); obtain ⟨ad258, A258_0, c258_0, e258, hx258_0, hl258_0, hi258_0⟩ := at_L3 (Kd.N_reads' HO255.out).2.2 0 p258 q258; obtain rfl : ad256 = ad258 := (by injection e258); obtain ⟨ce258, hce258, hMe258, hcc258⟩ := Kd.N_get HO255.out [] 0 p258 (by first | exact q258 | exact of_decide_eq_true (by assumption) | (have e_ := (Kd.N_reads' HO255.out).1; omega)); obtain ⟨ua258_0, uc258_0, rfl, ul258_0, ge258_0⟩ := Kd.FK_slice_open hMe258; have hv258_0 := hcc258 0 _ rfl; rw [Nat.add_zero, show ((Kd.slice 2 (Kd.int .i64))).sz = 1 from rfl, Nat.mul_one] at hv258_0; replace hv258_0 := Option.some.inj (hv258_0.symm.trans hx258_0); injection hv258_0 with hva_ hvn_ hvc_; rw [hva_] at ge258_0; rw [hvc_] at ul258_0; have HL258_0 := Aside0.mk (show Kd.V (Kd.int .i64) 2 _ w.heap.size _ _ (rd_L3 t253 0) from Kd.V_mk ul258_0 ge258_0); clear hva_ hvn_ hvc_ ge258_0 ul258_0; clear hcc258 hce258; have qi258 : (0 < t253.length) = True := eq_true (by omega); (try rw [show ((0 : Int)).toNat = 0 from rfl] at hx258_0); (try rw [Addr.add_zero'] at hx258_0); have HR258_0 := Aside0.mk hi258_0; have HC258_0 := Aside0.mk hl258_0; clear hi258_0 hl258_0; replace p258 := eq_true p258; replace q258 := eq_true q258; have ea_ := Option.some.inj (hx256_0.symm.trans hx258_0); injection ea_ with ea_ en_ ec_; subst ea_; subst ec_; clear en_; have p259 : 0 ≤ (a3 : Int) := of_decide_eq_true (by assumption); have q259 : a3 < ((rd_L3 t253 0).length : Int) := of_decide_eq_true (by assumption); obtain ⟨ad259, e259, hx259_0⟩ := Kd.at_int (by repeat (first | (with_reducible exact HR258_0.out) | (with_reducible refine Kd.C_alloc ?_ _) | (with_reducible refine Kd.C_drewN ?_ _) | (with_reducible refine Kd.C_drew ?_) | exact HR258_0.out)) a3 p259 q259; cases e259; replace p259 := eq_true p259; replace q259 := eq_true q259) | (go_at_call 41; (with_reducible refine (spec_l00In.calls a4 0 (wrap64 ((rd (rd_L3 t253 0) a3) - 1)) true _ A22.out).mono ?_); rintro e w' ⟨rfl, ⟨nd, rfl⟩⟩; (try first | exact ⟨rfl, _, World.drewN_drewN _ _ _⟩ | exact ⟨rfl, _, Eq.trans (World.drewN_drewN _ _ _) (congrArg (World.drewN _) (Nat.add_assoc _ _ _))⟩)) | ((with_reducible refine gate_dst (N := 55) rfl ?_); refine Kd.R_lit (Kd.int .i64) _ 2 ?hg (N := 55) ?hd (xs := ([] : List Int)) (inner := []) (ok := fun _ => True) (okp := fun _ => True) ?hr ?hp (fun _ hk => hk) trivial (Below.refl _ _) (Nat.le_refl _) (by simp) ?_; (case hd => rfl); (case hg => rfl); (case hr => first | (go_simp; done) | (go_simp; rfl)); (case hp => exact (Reps.none _ _)); intro v262 w31 ho32 hb hg_ hnew_; clear hg_ hnew_; (first | rw [← Ny261.out] at ho32 | (simp only [Int.reduceToNat] at ho32; rw [← Ny261.out] at ho32)); have n0_ := Aside0.mk (Kd.N_elder' (by (with_reducible repeat (first | apply Kd.N_alloc | apply Kd.N_drewN | apply Kd.N_drew)); exact HO249.out) (Kd.R_base ho32) hb); have n1_ := Aside0.mk (Kd.N_elder' (by (with_reducible repeat (first | apply Kd.N_alloc | apply Kd.N_drewN | apply Kd.N_drew)); exact HO252.out) (Kd.R_base ho32) hb); have n2_ := Aside0.mk (Kd.N_elder' (by (with_reducible repeat (first | apply Kd.N_alloc | apply Kd.N_drewN | apply Kd.N_drew)); exact HO255.out) (Kd.R_base ho32) hb); have n3_ := Aside0.mk (Kd.V_elder' (by (with_reducible repeat (first | apply Kd.V_alloc | apply Kd.V_drewN | apply Kd.V_drew)); exact HL256_0.out) (Kd.R_base ho32) hb); have n4_ := Aside0.mk (Kd.V_elder' (by (with_reducible repeat (first | apply Kd.V_alloc | apply Kd.V_drewN | apply Kd.V_drew)); exact HL258_0.out) (Kd.R_base ho32) hb); have n5_ := Aside0.mk (Kd.R_lower ho32 (below_size (by repeat (first | exact HB.out | apply below_alloc | apply pw_below_drewN | apply below_drew1)))); have n6_ := Aside0.mk (Kd.C_below (by repeat (first | (with_reducible exact HR256_0.out) | (with_reducible refine Kd.C_alloc ?_ _) | (with_reducible refine Kd.C_drewN ?_ _) | (with_reducible refine Kd.C_drew ?_) | exact HR256_0.out)) hb); have n7_ := Aside0.mk (Kd.C_below (by repeat (first | (with_reducible exact HR258_0.out) | (with_reducible refine Kd.C_alloc ?_ _) | (with_reducible refine Kd.C_drewN ?_ _) | (with_reducible refine Kd.C_drew ?_) | exact HR258_0.out)) hb); have n8_ := Aside0.mk (below_step (by repeat (first | exact HB.out | apply below_alloc | apply pw_below_drewN | apply below_drew1)) hb); clear HO249; clear HO252; clear HO255; clear HL256_0; clear HL258_0; clear HR256_0; clear HR258_0; clear HB; have HO249 := n0_; have HO252 := n1_; have HO255 := n2_; have HL256_0 := n3_; have HL258_0 := n4_; have HO263 := n5_; have HR256_0 := n6_; have HR258_0 := n7_; have HB := n8_; clear n0_ n1_ n2_ n3_ n4_ n5_ n6_ n7_ n8_; clear hb ho32))
       repeat (go_quiet (first | (go_at_call 35; (with_reducible refine (spec_l20Vary.calls k _ _ l0 _ _ l1 a2 a3 t246 _ ?side1 ?side2 ?side3 ?side4 A6.out).mono ?_); (case side1 => repeat (first | exact HR0.out | (with_reducible refine Kd.C_alloc ?_ _) | (with_reducible refine Kd.C_drewN ?_ _) | (with_reducible refine Kd.C_drew ?_))); (case side2 => exact HC0.out); (case side3 => repeat (first | exact HR1.out | (with_reducible refine Kd.C_alloc ?_ _) | (with_reducible refine Kd.C_drewN ?_ _) | (with_reducible refine Kd.C_drew ?_))); (case side4 => exact HC1.out); rintro e w24 ⟨rfl, hb⟩; have n0_ := Aside0.mk (below_step (by repeat (first | exact HB.out | apply below_alloc | apply pw_below_drewN | apply below_drew1)) hb); clear HB; have HB := n0_; clear n0_; (try clear hb); (try clear hb2); (try clear hk); (try clear hi)) | (go_at_call 36; (with_reducible refine (spec_l20Blocks.calls k _ _ l1 a2 t247 _ ?side1 ?side2 A8.out).mono ?_); (case side1 => repeat (first | exact (Kd.C_below HR1.out HB.out) | (with_reducible refine Kd.C_alloc ?_ _) | (with_reducible refine Kd.C_drewN ?_ _) | (with_reducible refine Kd.C_drew ?_))); (case side2 => exact HC1.out); rintro e w25 ⟨v248, rfl, ho0, hb⟩; have n0_ := Aside0.mk (Kd.N_lower (Kd.N_mono (ok' := fun k_ => True) (Kd.S_N (Kd.S_bound ho0)) (fun k_ hk_ => trivial)) (below_size (by repeat (first | exact HB.out | apply below_alloc | apply pw_below_drewN | apply below_drew1)))); have n1_ := Aside0.mk (below_step (by repeat (first | exact HB.out | apply below_alloc | apply pw_below_drewN | apply below_drew1)) hb); clear HB; have HO249 := n0_; have HB := n1_; clear n0_ n1_; (try clear hb); (try clear hb2); (try clear hk); (try clear hi); (try clear ho0); obtain ⟨Ao26, co26, eo26⟩ := Kd.N_slice HO249.out; subst eo26) | (go_at_call 38; (with_reducible refine (spec_l20Choices.calls k _ _ l0 _ _ t247 t250 _ ?side1 ?side2 ?side3 ?side4 A9.out).mono ?_); (case side1 => repeat (first | exact (Kd.C_below HR0.out HB.out) | (with_reducible refine Kd.C_alloc ?_ _) | (with_reducible refine Kd.C_drewN ?_ _) | (with_reducible refine Kd.C_drew ?_))); (case side2 => exact HC0.out); (case side3 => repeat (first | exact (Kd.N_reads' HO249.out).2.2 | (with_reducible refine Kd.C_alloc ?_ _) | (with_reducible refine Kd.C_drewN ?_ _) | (with_reducible refine Kd.C_drew ?_))); (case side4 => exact (Kd.N_reads' HO249.out).2.1); rintro e w27 ⟨v251, rfl, ho0, hb⟩; have n0_ := Aside0.mk (Kd.N_elder' (by (with_reducible repeat (first | apply Kd.N_alloc | apply Kd.N_drewN | apply Kd.N_drew)); exact HO249.out) (by first | exact Kd.N_base ho0 | exact Kd.S_base ho0) hb); have n1_ := Aside0.mk (Kd.N_lower (Kd.N_mono (ok' := fun k_ => some k_ ≠ (.slice Ao26 t247.length co26 : Value).ownBlock) (Kd.S_N (Kd.S_bound ho0)) (fun k_ hk_ => (Kd.fresh' (Kd.N_lt (by (with_reducible repeat (first | apply Kd.N_alloc | apply Kd.N_drewN | apply Kd.N_drew)); exact HO249.out)) k_ hk_.2.1))) (below_size (by repeat (first | exact HB.out | apply below_alloc | apply pw_below_drewN | apply below_drew1)))); have n2_ := Aside0.mk (below_step (by repeat (first | exact HB.out | apply below_alloc | apply pw_below_drewN | apply below_drew1)) hb); clear HO249; clear HB; have HO249 := n0_; have HO252 := n1_; have HB := n2_; clear n0_ n1_ n2_; (try clear hb); (try clear hb2); (try clear hk); (try clear hi); (try clear ho0); obtain ⟨Ao28, co28, eo28⟩ := Kd.N_slice HO252.out; subst eo28) | (go_at_call 37; (with_reducible refine (spec_l20Ways.calls k _ _ t247 _ _ t250 a3 t253 _ ?side1 ?side2 ?side3 ?side4 A10.out).mono ?_); (case side1 => repeat (first | exact (Kd.N_reads' HO249.out).2.2 | (with_reducible refine Kd.C_alloc ?_ _) | (with_reducible refine Kd.C_drewN ?_ _) | (with_reducible refine Kd.C_drew ?_))); (case side2 => exact (Kd.N_reads' HO249.out).2.1); (case side3 => repeat (first | exact (Kd.N_reads' HO252.out).2.2 | (with_reducible refine Kd.C_alloc ?_ _) | (with_reducible refine Kd.C_drewN ?_ _) | (with_reducible refine Kd.C_drew ?_))); (case side4 => exact (Kd.N_reads' HO252.out).2.1); rintro e w29 ⟨v254, rfl, ho0, hb⟩; have n0_ := Aside0.mk (Kd.N_elder' (by (with_reducible repeat (first | apply Kd.N_alloc | apply Kd.N_drewN | apply Kd.N_drew)); exact HO249.out) (by first | exact Kd.N_base ho0 | exact Kd.S_base ho0) hb); have n1_ := Aside0.mk (Kd.N_elder' (by (with_reducible repeat (first | apply Kd.N_alloc | apply Kd.N_drewN | apply Kd.N_drew)); exact HO252.out) (by first | exact Kd.N_base ho0 | exact Kd.S_base ho0) hb); have n2_ := Aside0.mk (Kd.N_lower (Kd.N_mono (ok' := fun k_ => some k_ ≠ (.slice Ao26 t247.length co26 : Value).ownBlock ∧ some k_ ≠ (.slice Ao28 t250.length co28 : Value).ownBlock) ho0 (fun k_ hk_ => ⟨(Kd.fresh' (Kd.N_lt (by (with_reducible repeat (first | apply Kd.N_alloc | apply Kd.N_drewN | apply Kd.N_drew)); exact HO249.out)) k_ hk_), (Kd.fresh' (Kd.N_lt (by (with_reducible repeat (first | apply Kd.N_alloc | apply Kd.N_drewN | apply Kd.N_drew)); exact HO252.out)) k_ hk_)⟩)) (below_size (by repeat (first | exact HB.out | apply below_alloc | apply pw_below_drewN | apply below_drew1)))); have n3_ := Aside0.mk (below_step (by repeat (first | exact HB.out | apply below_alloc | apply pw_below_drewN | apply below_drew1)) hb); clear HO249; clear HO252; clear HB; have HO249 := n0_; have HO252 := n1_; have HO255 := n2_; have HB := n3_; clear n0_ n1_ n2_ n3_; (try clear hb); (try clear hb2); (try clear hk); (try clear hi); (try clear ho0); obtain ⟨Ao30, co30, eo30⟩ := Kd.N_slice HO255.out; subst eo30; have p256 : 0 ≤ (0 : Int) := (by omega); have q256 : 0 < (t253.length : Int) := of_decide_eq_true (by assumption); obtain ⟨ad256, A256_0, c256_0, e256, hx256_0, hl256_0, hi256_0⟩ := at_L3 (Kd.N_reads' HO255.out).2.2 0 p256 q256; cases e256; obtain ⟨ce256, hce256, hMe256, hcc256⟩ := Kd.N_get HO255.out [] 0 p256 (by first | exact q256 | exact of_decide_eq_true (by assumption) | (have e_ := (Kd.N_reads' HO255.out).1; omega)); obtain ⟨ua256_0, uc256_0, rfl, ul256_0, ge256_0⟩ := Kd.FK_slice_open hMe256; have hv256_0 := hcc256 0 _ rfl; rw [Nat.add_zero, show ((Kd.slice 2 (Kd.int .i64))).sz = 1 from rfl, Nat.mul_one] at hv256_0; replace hv256_0 := Option.some.inj (hv256_0.symm.trans hx256_0); injection hv256_0 with hva_ hvn_ hvc_; rw [hva_] at ge256_0; rw [hvc_] at ul256_0; have HL256_0 := Aside0.mk (show Kd.V (Kd.int .i64) 2 _ w.heap.size _ _ (rd_L3 t253 0) from Kd.V_mk ul256_0 ge256_0); clear hva_ hvn_ hvc_ ge256_0 ul256_0; clear hcc256 hce256; have qi256 : (0 < t253.length) = True := eq_true (by omega); (try rw [show ((0 : Int)).toNat = 0 from rfl] at hx256_0); (try rw [Addr.add_zero'] at hx256_0); have HR256_0 := Aside0.mk hi256_0; have HC256_0 := Aside0.mk hl256_0; clear hi256_0 hl256_0; replace p256 := eq_true p256; replace q256 := eq_true q256; have p257 : 0 ≤ (a3 : Int) := of_decide_eq_true (by assumption); have q257 : a3 < ((rd_L3 t253 0).length : Int) := of_decide_eq_true (by assumption); obtain ⟨ad257, e257, hx257_0⟩ := Kd.at_int (by repeat (first | (with_reducible exact HR256_0.out) | (with_reducible refine Kd.C_alloc ?_ _) | (with_reducible refine Kd.C_drewN ?_ _) | (with_reducible refine Kd.C_drew ?_) | exact HR256_0.out)) a3 p257 q257; cases e257; replace p257 := eq_true p257; replace q257 := eq_true q257; have p258 : 0 ≤ (0 : Int) := (by omega); have q258 : 0 < (t253.length : Int) := of_decide_eq_true (by assumption); obtain ⟨ad258, A258_0, c258_0, e258, hx258_0, hl258_0, hi258_0⟩ := at_L3 (Kd.N_reads' HO255.out).2.2 0 p258 q258; obtain rfl : ad256 = ad258 := (by injection e258); obtain ⟨ce258, hce258, hMe258, hcc258⟩ := Kd.N_get HO255.out [] 0 p258 (by first | exact q258 | exact of_decide_eq_true (by assumption) | (have e_ := (Kd.N_reads' HO255.out).1; omega)); obtain ⟨ua258_0, uc258_0, rfl, ul258_0, ge258_0⟩ := Kd.FK_slice_open hMe258; have hv258_0 := hcc258 0 _ rfl; rw [Nat.add_zero, show ((Kd.slice 2 (Kd.int .i64))).sz = 1 from rfl, Nat.mul_one] at hv258_0; replace hv258_0 := Option.some.inj (hv258_0.symm.trans hx258_0); injection hv258_0 with hva_ hvn_ hvc_; rw [hva_] at ge258_0; rw [hvc_] at ul258_0; have HL258_0 := Aside0.mk (show Kd.V (Kd.int .i64) 2 _ w.heap.size _ _ (rd_L3 t253 0) from Kd.V_mk ul258_0 ge258_0); clear hva_ hvn_ hvc_ ge258_0 ul258_0; clear hcc258 hce258; have qi258 : (0 < t253.length) = True := eq_true (by omega); (try rw [show ((0 : Int)).toNat = 0 from rfl] at hx258_0); (try rw [Addr.add_zero'] at hx258_0); have HR258_0 := Aside0.mk hi258_0; have HC258_0 := Aside0.mk hl258_0; clear hi258_0 hl258_0; replace p258 := eq_true p258; replace q258 := eq_true q258; have ea_ := Option.some.inj (hx256_0.symm.trans hx258_0); injection ea_ with ea_ en_ ec_; subst ea_; subst ec_; clear en_; have p259 : 0 ≤ (a3 : Int) := of_decide_eq_true (by assumption); have q259 : a3 < ((rd_L3 t253 0).length : Int) := of_decide_eq_true (by assumption); obtain ⟨ad259, e259, hx259_0⟩ := Kd.at_int (by repeat (first | (with_reducible exact HR258_0.out) | (with_reducible refine Kd.C_alloc ?_ _) | (with_reducible refine Kd.C_drewN ?_ _) | (with_reducible refine Kd.C_drew ?_) | exact HR258_0.out)) a3 p259 q259; cases e259; replace p259 := eq_true p259; replace q259 := eq_true q259) | (go_at_call 41; (with_reducible refine (spec_l00In.calls a4 0 (wrap64 ((rd (rd_L3 t253 0) a3) - 1)) true _ A22.out).mono ?_); rintro e w' ⟨rfl, ⟨nd, rfl⟩⟩; (try first | exact ⟨rfl, _, World.drewN_drewN _ _ _⟩ | exact ⟨rfl, _, Eq.trans (World.drewN_drewN _ _ _) (congrArg (World.drewN _) (Nat.add_assoc _ _ _))⟩)) | ((with_reducible refine gate_dst (N := 55) rfl ?_); refine Kd.R_lit (Kd.int .i64) _ 2 ?hg (N := 55) ?hd (xs := ([] : List Int)) (inner := []) (ok := fun _ => True) (okp := fun _ => True) ?hr ?hp (fun _ hk => hk) trivial (Below.refl _ _) (Nat.le_refl _) (by simp) ?_; (case hd => rfl); (case hg => rfl); (case hr => first | (go_simp; done) | (go_simp; rfl)); (case hp => exact (Reps.none _ _)); intro v262 w31 ho32 hb hg_ hnew_; clear hg_ hnew_; (first | rw [← Ny261.out] at ho32 | (simp only [Int.reduceToNat] at ho32; rw [← Ny261.out] at ho32)); have n0_ := Aside0.mk (Kd.N_elder' (by (with_reducible repeat (first | apply Kd.N_alloc | apply Kd.N_drewN | apply Kd.N_drew)); exact HO249.out) (Kd.R_base ho32) hb); have n1_ := Aside0.mk (Kd.N_elder' (by (with_reducible repeat (first | apply Kd.N_alloc | apply Kd.N_drewN | apply Kd.N_drew)); exact HO252.out) (Kd.R_base ho32) hb); have n2_ := Aside0.mk (Kd.N_elder' (by (with_reducible repeat (first | apply Kd.N_alloc | apply Kd.N_drewN | apply Kd.N_drew)); exact HO255.out) (Kd.R_base ho32) hb); have n3_ := Aside0.mk (Kd.V_elder' (by (with_reducible repeat (first | apply Kd.V_alloc | apply Kd.V_drewN | apply Kd.V_drew)); exact HL256_0.out) (Kd.R_base ho32) hb); have n4_ := Aside0.mk (Kd.V_elder' (by (with_reducible repeat (first | apply Kd.V_alloc | apply Kd.V_drewN | apply Kd.V_drew)); exact HL258_0.out) (Kd.R_base ho32) hb); have n5_ := Aside0.mk (Kd.R_lower ho32 (below_size (by repeat (first | exact HB.out | apply below_alloc | apply pw_below_drewN | apply below_drew1)))); have n6_ := Aside0.mk (Kd.C_below (by repeat (first | (with_reducible exact HR256_0.out) | (with_reducible refine Kd.C_alloc ?_ _) | (with_reducible refine Kd.C_drewN ?_ _) | (with_reducible refine Kd.C_drew ?_) | exact HR256_0.out)) hb); have n7_ := Aside0.mk (Kd.C_below (by repeat (first | (with_reducible exact HR258_0.out) | (with_reducible refine Kd.C_alloc ?_ _) | (with_reducible refine Kd.C_drewN ?_ _) | (with_reducible refine Kd.C_drew ?_) | exact HR258_0.out)) hb); have n8_ := Aside0.mk (below_step (by repeat (first | exact HB.out | apply below_alloc | apply pw_below_drewN | apply below_drew1)) hb); clear HO249; clear HO252; clear HO255; clear HL256_0; clear HL258_0; clear HR256_0; clear HR258_0; clear HB; have HO249 := n0_; have HO252 := n1_; have HO255 := n2_; have HL256_0 := n3_; have HL258_0 := n4_; have HO263 := n5_; have HR256_0 := n6_; have HR258_0 := n7_; have HB := n8_; clear n0_ n1_ n2_ n3_ n4_ n5_ n6_ n7_ n8_; clear hb ho32)); try go_wp2_with (first | (go_at_call 35; (with_reducible refine (spec_l20Vary.calls k _ _ l0 _ _ l1 a2 a3 t246 _ ?side1 ?side2 ?side3 ?side4 A6.out).mono ?_); (case side1 => repeat (first | exact HR0.out | (with_reducible refine Kd.C_alloc ?_ _) | (with_reducible refine Kd.C_drewN ?_ _) | (with_reducible refine Kd.C_drew ?_))); (case side2 => exact HC0.out); (case side3 => repeat (first | exact HR1.out | (with_reducible refine Kd.C_alloc ?_ _) | (with_reducible refine Kd.C_drewN ?_ _) | (with_reducible refine Kd.C_drew ?_))); (case side4 => exact HC1.out); rintro e w24 ⟨rfl, hb⟩; have n0_ := Aside0.mk (below_step (by repeat (first | exact HB.out | apply below_alloc | apply pw_below_drewN | apply below_drew1)) hb); clear HB; have HB := n0_; clear n0_; (try clear hb); (try clear hb2); (try clear hk); (try clear hi)) | (go_at_call 36; (with_reducible refine (spec_l20Blocks.calls k _ _ l1 a2 t247 _ ?side1 ?side2 A8.out).mono ?_); (case side1 => repeat (first | exact (Kd.C_below HR1.out HB.out) | (with_reducible refine Kd.C_alloc ?_ _) | (with_reducible refine Kd.C_drewN ?_ _) | (with_reducible refine Kd.C_drew ?_))); (case side2 => exact HC1.out); rintro e w25 ⟨v248, rfl, ho0, hb⟩; have n0_ := Aside0.mk (Kd.N_lower (Kd.N_mono (ok' := fun k_ => True) (Kd.S_N (Kd.S_bound ho0)) (fun k_ hk_ => trivial)) (below_size (by repeat (first | exact HB.out | apply below_alloc | apply pw_below_drewN | apply below_drew1)))); have n1_ := Aside0.mk (below_step (by repeat (first | exact HB.out | apply below_alloc | apply pw_below_drewN | apply below_drew1)) hb); clear HB; have HO249 := n0_; have HB := n1_; clear n0_ n1_; (try clear hb); (try clear hb2); (try clear hk); (try clear hi); (try clear ho0); obtain ⟨Ao26, co26, eo26⟩ := Kd.N_slice HO249.out; subst eo26) | (go_at_call 38; (with_reducible refine (spec_l20Choices.calls k _ _ l0 _ _ t247 t250 _ ?side1 ?side2 ?side3 ?side4 A9.out).mono ?_); (case side1 => repeat (first | exact (Kd.C_below HR0.out HB.out) | (with_reducible refine Kd.C_alloc ?_ _) | (with_reducible refine Kd.C_drewN ?_ _) | (with_reducible refine Kd.C_drew ?_))); (case side2 => exact HC0.out); (case side3 => repeat (first | exact (Kd.N_reads' HO249.out).2.2 | (with_reducible refine Kd.C_alloc ?_ _) | (with_reducible refine Kd.C_drewN ?_ _) | (with_reducible refine Kd.C_drew ?_))); (case side4 => exact (Kd.N_reads' HO249.out).2.1); rintro e w27 ⟨v251, rfl, ho0, hb⟩; have n0_ := Aside0.mk (Kd.N_elder' (by (with_reducible repeat (first | apply Kd.N_alloc | apply Kd.N_drewN | apply Kd.N_drew)); exact HO249.out) (by first | exact Kd.N_base ho0 | exact Kd.S_base ho0) hb); have n1_ := Aside0.mk (Kd.N_lower (Kd.N_mono (ok' := fun k_ => some k_ ≠ (.slice Ao26 t247.length co26 : Value).ownBlock) (Kd.S_N (Kd.S_bound ho0)) (fun k_ hk_ => (Kd.fresh' (Kd.N_lt (by (with_reducible repeat (first | apply Kd.N_alloc | apply Kd.N_drewN | apply Kd.N_drew)); exact HO249.out)) k_ hk_.2.1))) (below_size (by repeat (first | exact HB.out | apply below_alloc | apply pw_below_drewN | apply below_drew1)))); have n2_ := Aside0.mk (below_step (by repeat (first | exact HB.out | apply below_alloc | apply pw_below_drewN | apply below_drew1)) hb); clear HO249; clear HB; have HO249 := n0_; have HO252 := n1_; have HB := n2_; clear n0_ n1_ n2_; (try clear hb); (try clear hb2); (try clear hk); (try clear hi); (try clear ho0); obtain ⟨Ao28, co28, eo28⟩ := Kd.N_slice HO252.out; subst eo28) | (go_at_call 37; (with_reducible refine (spec_l20Ways.calls k _ _ t247 _ _ t250 a3 t253 _ ?side1 ?side2 ?side3 ?side4 A10.out).mono ?_); (case side1 => repeat (first | exact (Kd.N_reads' HO249.out).2.2 | (with_reducible refine Kd.C_alloc ?_ _) | (with_reducible refine Kd.C_drewN ?_ _) | (with_reducible refine Kd.C_drew ?_))); (case side2 => exact (Kd.N_reads' HO249.out).2.1); (case side3 => repeat (first | exact (Kd.N_reads' HO252.out).2.2 | (with_reducible refine Kd.C_alloc ?_ _) | (with_reducible refine Kd.C_drewN ?_ _) | (with_reducible refine Kd.C_drew ?_))); (case side4 => exact (Kd.N_reads' HO252.out).2.1); rintro e w29 ⟨v254, rfl, ho0, hb⟩; have n0_ := Aside0.mk (Kd.N_elder' (by (with_reducible repeat (first | apply Kd.N_alloc | apply Kd.N_drewN | apply Kd.N_drew)); exact HO249.out) (by first | exact Kd.N_base ho0 | exact Kd.S_base ho0) hb); have n1_ := Aside0.mk (Kd.N_elder' (by (with_reducible repeat (first | apply Kd.N_alloc | apply Kd.N_drewN | apply Kd.N_drew)); exact HO252.out) (by first | exact Kd.N_base ho0 | exact Kd.S_base ho0) hb); have n2_ := Aside0.mk (Kd.N_lower (Kd.N_mono (ok' := fun k_ => some k_ ≠ (.slice Ao26 t247.length co26 : Value).ownBlock ∧ some k_ ≠ (.slice Ao28 t250.length co28 : Value).ownBlock) ho0 (fun k_ hk_ => ⟨(Kd.fresh' (Kd.N_lt (by (with_reducible repeat (first | apply Kd.N_alloc | apply Kd.N_drewN | apply Kd.N_drew)); exact HO249.out)) k_ hk_), (Kd.fresh' (Kd.N_lt (by (with_reducible repeat (first | apply Kd.N_alloc | apply Kd.N_drewN | apply Kd.N_drew)); exact HO252.out)) k_ hk_)⟩)) (below_size (by repeat (first | exact HB.out | apply below_alloc | apply pw_below_drewN | apply below_drew1)))); have n3_ := Aside0.mk (below_step (by repeat (first | exact HB.out | apply below_alloc | apply pw_below_drewN | apply below_drew1)) hb); clear HO249; clear HO252; clear HB; have HO249 := n0_; have HO252 := n1_; have HO255 := n2_; have HB := n3_; clear n0_ n1_ n2_ n3_; (try clear hb); (try clear hb2); (try clear hk); (try clear hi); (try clear ho0); obtain ⟨Ao30, co30, eo30⟩ := Kd.N_slice HO255.out; subst eo30; have p256 : 0 ≤ (0 : Int) := (by omega); have q256 : 0 < (t253.length : Int) := of_decide_eq_true (by assumption); obtain ⟨ad256, A256_0, c256_0, e256, hx256_0, hl256_0, hi256_0⟩ := at_L3 (Kd.N_reads' HO255.out).2.2 0 p256 q256; cases e256; obtain ⟨ce256, hce256, hMe256, hcc256⟩ := Kd.N_get HO255.out [] 0 p256 (by first | exact q256 | exact of_decide_eq_true (by assumption) | (have e_ := (Kd.N_reads' HO255.out).1; omega)); obtain ⟨ua256_0, uc256_0, rfl, ul256_0, ge256_0⟩ := Kd.FK_slice_open hMe256; have hv256_0 := hcc256 0 _ rfl; rw [Nat.add_zero, show ((Kd.slice 2 (Kd.int .i64))).sz = 1 from rfl, Nat.mul_one] at hv256_0; replace hv256_0 := Option.some.inj (hv256_0.symm.trans hx256_0); injection hv256_0 with hva_ hvn_ hvc_; rw [hva_] at ge256_0; rw [hvc_] at ul256_0; have HL256_0 := Aside0.mk (show Kd.V (Kd.int .i64) 2 _ w.heap.size _ _ (rd_L3 t253 0) from Kd.V_mk ul256_0 ge256_0); clear hva_ hvn_ hvc_ ge256_0 ul256_0; clear hcc256 hce256; have qi256 : (0 < t253.length) = True := eq_true (by omega); (try rw [show ((0 : Int)).toNat = 0 from rfl] at hx256_0); (try rw [Addr.add_zero'] at hx256_0); have HR256_0 := Aside0.mk hi256_0; have HC256_0 := Aside0.mk hl256_0; clear hi256_0 hl256_0; replace p256 := eq_true p256; replace q256 := eq_true q256; have p257 : 0 ≤ (a3 : Int) := of_decide_eq_true (by assumption); have q257 : a3 < ((rd_L3 t253 0).length : Int) := of_decide_eq_true (by assumption); obtain ⟨ad257, e257, hx257_0⟩ := Kd.at_int (by repeat (first | (with_reducible exact HR256_0.out) | (with_reducible refine Kd.C_alloc ?_ _) | (with_reducible refine Kd.C_drewN ?_ _) | (with_reducible refine Kd.C_drew ?_) | exact HR256_0.out)) a3 p257 q257; cases e257; replace p257 := eq_true p257; replace q257 := eq_true q257; have p258 : 0 ≤ (0 : Int) := (by omega); have q258 : 0 < (t253.length : Int) := of_decide_eq_true (by assumption); obtain ⟨ad258, A258_0, c258_0, e258, hx258_0, hl258_0, hi258_0⟩ := at_L3 (Kd.N_reads' HO255.out).2.2 0 p258 q258; obtain rfl : ad256 = ad258 := (by injection e258); obtain ⟨ce258, hce258, hMe258, hcc258⟩ := Kd.N_get HO255.out [] 0 p258 (by first | exact q258 | exact of_decide_eq_true (by assumption) | (have e_ := (Kd.N_reads' HO255.out).1; omega)); obtain ⟨ua258_0, uc258_0, rfl, ul258_0, ge258_0⟩ := Kd.FK_slice_open hMe258; have hv258_0 := hcc258 0 _ rfl; rw [Nat.add_zero, show ((Kd.slice 2 (Kd.int .i64))).sz = 1 from rfl, Nat.mul_one] at hv258_0; replace hv258_0 := Option.some.inj (hv258_0.symm.trans hx258_0); injection hv258_0 with hva_ hvn_ hvc_; rw [hva_] at ge258_0; rw [hvc_] at ul258_0; have HL258_0 := Aside0.mk (show Kd.V (Kd.int .i64) 2 _ w.heap.size _ _ (rd_L3 t253 0) from Kd.V_mk ul258_0 ge258_0); clear hva_ hvn_ hvc_ ge258_0 ul258_0; clear hcc258 hce258; have qi258 : (0 < t253.length) = True := eq_true (by omega); (try rw [show ((0 : Int)).toNat = 0 from rfl] at hx258_0); (try rw [Addr.add_zero'] at hx258_0); have HR258_0 := Aside0.mk hi258_0; have HC258_0 := Aside0.mk hl258_0; clear hi258_0 hl258_0; replace p258 := eq_true p258; replace q258 := eq_true q258; have ea_ := Option.some.inj (hx256_0.symm.trans hx258_0); injection ea_ with ea_ en_ ec_; subst ea_; subst ec_; clear en_; have p259 : 0 ≤ (a3 : Int) := of_decide_eq_true (by assumption); have q259 : a3 < ((rd_L3 t253 0).length : Int) := of_decide_eq_true (by assumption); obtain ⟨ad259, e259, hx259_0⟩ := Kd.at_int (by repeat (first | (with_reducible exact HR258_0.out) | (with_reducible refine Kd.C_alloc ?_ _) | (with_reducible refine Kd.C_drewN ?_ _) | (with_reducible refine Kd.C_drew ?_) | exact HR258_0.out)) a3 p259 q259; cases e259; replace p259 := eq_true p259; replace q259 := eq_true q259) | (go_at_call 41; (with_reducible refine (spec_l00In.calls a4 0 (wrap64 ((rd (rd_L3 t253 0) a3) - 1)) true _ A22.out).mono ?_); rintro e w' ⟨rfl, ⟨nd, rfl⟩⟩; (try first | exact ⟨rfl, _, World.drewN_drewN _ _ _⟩ | exact ⟨rfl, _, Eq.trans (World.drewN_drewN _ _ _) (congrArg (World.drewN _) (Nat.add_assoc _ _ _))⟩)) | ((with_reducible refine gate_dst (N := 55) rfl ?_); refine Kd.R_lit (Kd.int .i64) _ 2 ?hg (N := 55) ?hd (xs := ([] : List Int)) (inner := []) (ok := fun _ => True) (okp := fun _ => True) ?hr ?hp (fun _ hk => hk) trivial (Below.refl _ _) (Nat.le_refl _) (by simp) ?_; (case hd => rfl); (case hg => rfl); (case hr => first | (go_simp; done) | (go_simp; rfl)); (case hp => exact (Reps.none _ _)); intro v262 w31 ho32 hb hg_ hnew_; clear hg_ hnew_; (first | rw [← Ny261.out] at ho32 | (simp only [Int.reduceToNat] at ho32; rw [← Ny261.out] at ho32)); have n0_ := Aside0.mk (Kd.N_elder' (by (with_reducible repeat (first | apply Kd.N_alloc | apply Kd.N_drewN | apply Kd.N_drew)); exact HO249.out) (Kd.R_base ho32) hb); have n1_ := Aside0.mk (Kd.N_elder' (by (with_reducible repeat (first | apply Kd.N_alloc | apply Kd.N_drewN | apply Kd.N_drew)); exact HO252.out) (Kd.R_base ho32) hb); have n2_ := Aside0.mk (Kd.N_elder' (by (with_reducible repeat (first | apply Kd.N_alloc | apply Kd.N_drewN | apply Kd.N_drew)); exact HO255.out) (Kd.R_base ho32) hb); have n3_ := Aside0.mk (Kd.V_elder' (by (with_reducible repeat (first | apply Kd.V_alloc | apply Kd.V_drewN | apply Kd.V_drew)); exact HL256_0.out) (Kd.R_base ho32) hb); have n4_ := Aside0.mk (Kd.V_elder' (by (with_reducible repeat (first | apply Kd.V_alloc | apply Kd.V_drewN | apply Kd.V_drew)); exact HL258_0.out) (Kd.R_base ho32) hb); have n5_ := Aside0.mk (Kd.R_lower ho32 (below_size (by repeat (first | exact HB.out | apply below_alloc | apply pw_below_drewN | apply below_drew1)))); have n6_ := Aside0.mk (Kd.C_below (by repeat (first | (with_reducible exact HR256_0.out) | (with_reducible refine Kd.C_alloc ?_ _) | (with_reducible refine Kd.C_drewN ?_ _) | (with_reducible refine Kd.C_drew ?_) | exact HR256_0.out)) hb); have n7_ := Aside0.mk (Kd.C_below (by repeat (first | (with_reducible exact HR258_0.out) | (with_reducible refine Kd.C_alloc ?_ _) | (with_reducible refine Kd.C_drewN ?_ _) | (with_reducible refine Kd.C_drew ?_) | exact HR258_0.out)) hb); have n8_ := Aside0.mk (below_step (by repeat (first | exact HB.out | apply below_alloc | apply pw_below_drewN | apply below_drew1)) hb); clear HO249; clear HO252; clear HO255; clear HL256_0; clear HL258_0; clear HR256_0; clear HR258_0; clear HB; have HO249 := n0_; have HO252 := n1_; have HO255 := n2_; have HL256_0 := n3_; have HL258_0 := n4_; have HO263 := n5_; have HR256_0 := n6_; have HR258_0 := n7_; have HB := n8_; clear n0_ n1_ n2_ n3_ n4_ n5_ n6_ n7_ n8_; clear hb ho32)))
       go_loopg [3, 4, 16, 17] k (fun kq v3 v4 v16 v17 w' => ∃ (x3_1 : Int) (x4_1 : Int) (x16_1 : List Int) (x17_1 : Int), v3 = .int .i64 x3_1 ∧ v4 = .int .i64 x4_1 ∧ v17 = .int .i64 x17_1 ∧ Aside0 (spec_NumberedVariation.l0 kq x3_1 x4_1 t247 t250 t253 x16_1 x17_1 = some (r1, r2)) ∧ Aside0 (kq ≤ k) ∧ Aside0 (Kd.N (Kd.slice 2 (Kd.int .i64)) 25 w' w.heap.size (fun k_ => some k_ ≠ ((.slice Ao28 t250.length co28) : Value).ownBlock ∧ some k_ ≠ ((.slice (some ad256) t253.length co30) : Value).ownBlock ∧ some k_ ≠ (v16 : Value).ownBlock) (.slice Ao26 t247.length co26) t247) ∧ Aside0 (Kd.N (Kd.slice 2 (Kd.int .i64)) 25 w' w.heap.size (fun k_ => some k_ ≠ ((.slice Ao26 t247.length co26) : Value).ownBlock ∧ some k_ ≠ ((.slice (some ad256) t253.length co30) : Value).ownBlock ∧ some k_ ≠ (v16 : Value).ownBlock) (.slice Ao28 t250.length co28) t250) ∧ Aside0 (Kd.N (Kd.slice 2 (Kd.int .i64)) 25 w' w.heap.size (fun k_ => some k_ ≠ ((.slice Ao26 t247.length co26) : Value).ownBlock ∧ some k_ ≠ ((.slice Ao28 t250.length co28) : Value).ownBlock ∧ some k_ ≠ (v16 : Value).ownBlock) (.slice (some ad256) t253.length co30) t253) ∧ Aside0 (Kd.R (Kd.int .i64) 2 w' w.heap.size (fun _ => True) v16 x16_1) ∧ Aside0 (Below w.heap.size w w'))
       case atStart => exact ⟨(a3), (a4), (y261), (0), (by first | rfl | (simp; done) | (simp [*]; done)), (by first | rfl | (simp; done) | (simp [*]; done)), (by first | rfl | (simp; done) | (simp [*]; done)), H', ⟨Nat.le_refl _⟩, ⟨by (with_reducible repeat (first | apply Kd.N_alloc | apply Kd.N_drewN | apply Kd.N_drew)); exact Kd.N_mono HO249.out (fun _ hk => ⟨hk.1.1.2, ⟨hk.1.2, hk.2⟩⟩)⟩, ⟨by (with_reducible repeat (first | apply Kd.N_alloc | apply Kd.N_drewN | apply Kd.N_drew)); exact Kd.N_mono HO252.out (fun _ hk => ⟨hk.1.1, ⟨hk.1.2, hk.2⟩⟩)⟩, ⟨by (with_reducible repeat (first | apply Kd.N_alloc | apply Kd.N_drewN | apply Kd.N_drew)); exact Kd.N_mono HO255.out (fun _ hk => ⟨hk.1.1, ⟨hk.1.2, hk.2⟩⟩)⟩, ⟨by (with_reducible repeat (first | apply Kd.R_alloc | apply Kd.R_drewN | apply Kd.R_drew)); exact HO263.out⟩, ⟨by repeat (first | exact HB.out | apply below_alloc | apply pw_below_drewN | apply below_drew1)⟩⟩
       case round =>
        clear H'
        try clear c1
        try clear c2
        try clear p2
        try clear q2
        try clear hx2
        try clear qi2
        try clear p6
        try clear c7
        try clear c7b0
        try clear c7b1
        try clear c11
        try clear c11b0
        try clear c11b1
        try clear c12
        try clear c12b0
        try clear c13
        try clear c13b0
        try clear c14
        try clear c14b0
        try clear c18
        try clear c23
        try clear c25
        try clear p25
        try clear q25
        try clear hx25
        try clear qi25
        try clear hx256_0
        try clear hx257_0
        try clear hx258_0
        try clear hx259_0
        try clear p256
        try clear p257
        try clear p258
        try clear p259
        try clear q256
        try clear q257
        try clear q258
        try clear q259
        obtain ⟨x3_1, x4_1, x16_1, x17_1, rfl, rfl, rfl, HA, HK1, HO_13, HO_14, HO_15, HO_16, HB⟩ := hrel
        cases gk with
        | zero => exact absurd HA.out (by simp [spec_NumberedVariation.l0])
        | succ k1 =>
         have H := HA.out
         clear HA
         simp only [spec_NumberedVariation.l0] at H
         by_cases c33 : x17_1 < (t247.length : Int)
         ·rw [if_pos c33] at H
          have c33b0 : decide (x17_1 < (t247.length : Int)) = true := decide_eq_true c33
          clear c33
          have H' := Aside0.mk H
          clear H
          go_wp2
          repeat (go_quiet (fail); try go_wp2)
          go_loopg [3, 4, 16, 18] k1 (fun kq v3 v4 v16 v18 w' => ∃ (x3_2 : Int) (x4_2 : Int) (x16_2 : List Int) (x18_2 : Int), v3 = .int .i64 x3_2 ∧ v4 = .int .i64 x4_2 ∧ v18 = .int .i64 x18_2 ∧ Aside0 (spec_NumberedVariation.l1 kq x3_2 x4_2 t247 t250 t253 x16_2 x17_1 x18_2 = some (r1, r2)) ∧ Aside0 (kq ≤ k1) ∧ Aside0 (Kd.N (Kd.slice 2 (Kd.int .i64)) 25 w' w.heap.size (fun k_ => some k_ ≠ ((.slice Ao28 t250.length co28) : Value).ownBlock ∧ some k_ ≠ ((.slice (some ad256) t253.length co30) : Value).ownBlock ∧ some k_ ≠ (v16 : Value).ownBlock) (.slice Ao26 t247.length co26) t247) ∧ Aside0 (Kd.N (Kd.slice 2 (Kd.int .i64)) 25 w' w.heap.size (fun k_ => some k_ ≠ ((.slice Ao26 t247.length co26) : Value).ownBlock ∧ some k_ ≠ ((.slice (some ad256) t253.length co30) : Value).ownBlock ∧ some k_ ≠ (v16 : Value).ownBlock) (.slice Ao28 t250.length co28) t250) ∧ Aside0 (Kd.N (Kd.slice 2 (Kd.int .i64)) 25 w' w.heap.size (fun k_ => some k_ ≠ ((.slice Ao26 t247.length co26) : Value).ownBlock ∧ some k_ ≠ ((.slice Ao28 t250.length co28) : Value).ownBlock ∧ some k_ ≠ (v16 : Value).ownBlock) (.slice (some ad256) t253.length co30) t253) ∧ Aside0 (Kd.R (Kd.int .i64) 2 w' w.heap.size (fun _ => True) v16 x16_2) ∧ Aside0 (Below w.heap.size w w'))
          case atStart => exact ⟨(x3_1), (x4_1), (x16_1), (0), (by first | rfl | (simp; done) | (simp [*]; done)), (by first | rfl | (simp; done) | (simp [*]; done)), (by first | rfl | (simp; done) | (simp [*]; done)), H', ⟨Nat.le_refl _⟩, ⟨by (with_reducible repeat (first | apply Kd.N_alloc | apply Kd.N_drewN | apply Kd.N_drew)); exact HO_13.out⟩, ⟨by (with_reducible repeat (first | apply Kd.N_alloc | apply Kd.N_drewN | apply Kd.N_drew)); exact HO_14.out⟩, ⟨by (with_reducible repeat (first | apply Kd.N_alloc | apply Kd.N_drewN | apply Kd.N_drew)); exact HO_15.out⟩, ⟨by (with_reducible repeat (first | apply Kd.R_alloc | apply Kd.R_drewN | apply Kd.R_drew)); exact HO_16.out⟩, ⟨by repeat (first | exact HB.out | apply below_alloc | apply pw_below_drewN | apply below_drew1)⟩⟩
          case round =>
           clear H'
           try clear c1
           try clear c2
           try clear p2
           try clear q2
           try clear hx2
           try clear qi2
           try clear c3
           try clear p6
           try clear c7
           try clear c7b0
           try clear c7b1
           try clear c11
           try clear c11b0
           try clear c11b1
           try clear c12
           try clear c12b0
           try clear c13
           try clear c13b0
           try clear c14
           try clear c14b0
           try clear c18
           try clear c23
           try clear c25
           try clear p25
           try clear q25
           try clear hx25
           try clear qi25
           try clear c33
           try clear c33b0
           try clear hx256_0
           try clear hx257_0
           try clear hx258_0
           try clear hx259_0
           try clear p2
           try clear p25
           try clear p256
           try clear p257
           try clear p258
           try clear p259
           try clear p6
           try clear q2
           try clear q25
           try clear q256
           try clear q257
           try clear q258
           try clear q259
           obtain ⟨x3_2, x4_2, x16_2, x18_2, rfl, rfl, rfl, HA, HK2, HO_13, HO_14, HO_15, HO_16, HB⟩ := hrel
           cases gk with
           | zero => exact absurd HA.out (by simp [spec_NumberedVariation.l1])
           | succ k2 =>
            have H := HA.out
            clear HA
            simp only [spec_NumberedVariation.l1] at H
            by_cases c34 : 0 ≤ x17_1
            ·rw [if_pos c34] at H
             have c34b0 : decide (0 ≤ x17_1) = true := decide_eq_true c34
             clear c34
             by_cases c35 : x17_1 < (t250.length : Int)
             ·rw [if_pos c35] at H
              have c35b0 : decide (x17_1 < (t250.length : Int)) = true := decide_eq_true c35
              clear c35
              by_cases c36 : x18_2 < ((rd_L3 t250 x17_1).length : Int)
              ·rw [if_pos c36] at H
               have c36b0 : decide (x18_2 < ((rd_L3 t250 x17_1).length : Int)) = true := decide_eq_true c36
               clear c36
               by_cases c37 : 0 ≤ x18_2
               ·rw [if_pos c37] at H
                have c37b0 : decide (0 ≤ x18_2) = true := decide_eq_true c37
                clear c37
                by_cases c38 : 0 ≤ (rd (rd_L3 t250 x17_1) x18_2)
                ·rw [if_pos c38] at H
                 have c38b0 : decide (0 ≤ (rd (rd_L3 t250 x17_1) x18_2)) = true := decide_eq_true c38
                 clear c38
                 by_cases c39 : (rd (rd_L3 t250 x17_1) x18_2) < (t247.length : Int)
                 ·rw [if_pos c39] at H
                  have c39b0 : decide ((rd (rd_L3 t250 x17_1) x18_2) < (t247.length : Int)) = true := decide_eq_true c39
                  clear c39
                  by_cases c40 : x17_1 < (t247.length : Int)
                  ·rw [if_pos c40] at H
                   have c40b0 : decide (x17_1 < (t247.length : Int)) = true := decide_eq_true c40
                   clear c40
                   replace H := Option.bind_eq_some_iff.mp H
                   obtain ⟨t269, A410, H⟩ := H
                   replace H : (if t269 = true then (spec_NumberedVariation.j2 k2 x3_2 x4_2 t247 t250 t253 x16_2 x17_1 x18_2 x3_2) else (spec_NumberedVariation.j2 k2 x3_2 x4_2 t247 t250 t253 x16_2 x17_1 x18_2 (wrap64 (x3_2 - 1)))) = some (r1, r2) := H
                   have A41 := Aside0.mk A410
                   clear A410
                   have HC42 := Aside0.mk H
                   clear H
                   have p264 : 0 ≤ (x17_1 : Int) := of_decide_eq_true (by assumption)
                   have q264 : x17_1 < (t250.length : Int) := of_decide_eq_true (by assumption)
                   obtain ⟨ad264, A264_0, c264_0, e264, hx264_0, hl264_0, hi264_0⟩ := at_L3 (Kd.N_reads' HO_14.out).2.2 x17_1 p264 q264
                   cases e264
                   obtain ⟨ce264, hce264, hMe264, hcc264⟩ := Kd.N_get HO_14.out [] x17_1 p264 (by first | exact q264 | exact of_decide_eq_true (by assumption) | (have e_ := (Kd.N_reads' HO_14.out).1; omega))
                   obtain ⟨ua264_0, uc264_0, rfl, ul264_0, ge264_0⟩ := Kd.FK_slice_open hMe264
                   have hv264_0 := hcc264 0 _ rfl
                   rw [Nat.add_zero, show ((Kd.slice 2 (Kd.int .i64))).sz = 1 from rfl, Nat.mul_one] at hv264_0
                   replace hv264_0 := Option.some.inj (hv264_0.symm.trans hx264_0)
                   injection hv264_0 with hva_ hvn_ hvc_
                   rw [hva_] at ge264_0
                   rw [hvc_] at ul264_0
                   have HL264_0 := Aside0.mk (show Kd.V (Kd.int .i64) 2 _ w.heap.size _ _ (rd_L3 t250 x17_1) from Kd.V_mk ul264_0 ge264_0)
                   clear hva_ hvn_ hvc_ ge264_0 ul264_0
                   clear hcc264 hce264
                   have HR264_0 := Aside0.mk hi264_0
                   have HC264_0 := Aside0.mk hl264_0
                   clear hi264_0 hl264_0
                   replace p264 := eq_true p264
                   replace q264 := eq_true q264
                   have p265 : 0 ≤ (x17_1 : Int) := of_decide_eq_true (by assumption)
                   have q265 : x17_1 < (t250.length : Int) := of_decide_eq_true (by assumption)
                   obtain ⟨ad265, A265_0, c265_0, e265, hx265_0, hl265_0, hi265_0⟩ := at_L3 (Kd.N_reads' HO_14.out).2.2 x17_1 p265 q265
                   obtain rfl : ad264 = ad265 := (by injection e265)
                   obtain ⟨ce265, hce265, hMe265, hcc265⟩ := Kd.N_get HO_14.out [] x17_1 p265 (by first | exact q265 | exact of_decide_eq_true (by assumption) | (have e_ := (Kd.N_reads' HO_14.out).1; omega))
                   obtain ⟨ua265_0, uc265_0, rfl, ul265_0, ge265_0⟩ := Kd.FK_slice_open hMe265
                   have hv265_0 := hcc265 0 _ rfl
                   rw [Nat.add_zero, show ((Kd.slice 2 (Kd.int .i64))).sz = 1 from rfl, Nat.mul_one] at hv265_0
                   replace hv265_0 := Option.some.inj (hv265_0.symm.trans hx265_0)
                   injection hv265_0 with hva_ hvn_ hvc_
                   rw [hva_] at ge265_0
                   rw [hvc_] at ul265_0
                   have HL265_0 := Aside0.mk (show Kd.V (Kd.int .i64) 2 _ w.heap.size _ _ (rd_L3 t250 x17_1) from Kd.V_mk ul265_0 ge265_0)
                   clear hva_ hvn_ hvc_ ge265_0 ul265_0
                   clear hcc265 hce265
                   have HR265_0 := Aside0.mk hi265_0
                   have HC265_0 := Aside0.mk hl265_0
                   clear hi265_0 hl265_0
                   replace p265 := eq_true p265
                   replace q265 := eq_true q265
                   have ea_ := Option.some.inj (hx264_0.symm.trans hx265_0)
                   injection ea_ with ea_ en_ ec_
                   subst ea_
                   subst ec_
                   clear en_
                   have p266 : 0 ≤ (x18_2 : Int) := of_decide_eq_true (by assumption)
                   have q266 : x18_2 < ((rd_L3 t250 x17_1).length : Int) := of_decide_eq_true (by assumption)
                   obtain ⟨ad266, e266, hx266_0⟩ := Kd.at_int (by repeat (first | (with_reducible exact HR265_0.out) | (with_reducible refine Kd.C_alloc ?_ _) | (with_reducible refine Kd.C_drewN ?_ _) | (with_reducible refine Kd.C_drew ?_) | exact HR265_0.out)) x18_2 p266 q266
                   cases e266
                   replace p266 := eq_true p266
                   replace q266 := eq_true q266
                   have p267 : 0 ≤ ((rd (rd_L3 t250 x17_1) x18_2) : Int) := of_decide_eq_true (by assumption)
                   have q267 : (rd (rd_L3 t250 x17_1) x18_2) < (t247.length : Int) := of_decide_eq_true (by assumption)
                   obtain ⟨ad267, A267_0, c267_0, e267, hx267_0, hl267_0, hi267_0⟩ := at_L3 (Kd.N_reads' HO_13.out).2.2 (rd (rd_L3 t250 x17_1) x18_2) p267 q267
                   cases e267
                   obtain ⟨ce267, hce267, hMe267, hcc267⟩ := Kd.N_get HO_13.out [] (rd (rd_L3 t250 x17_1) x18_2) p267 (by first | exact q267 | exact of_decide_eq_true (by assumption) | (have e_ := (Kd.N_reads' HO_13.out).1; omega))
                   obtain ⟨ua267_0, uc267_0, rfl, ul267_0, ge267_0⟩ := Kd.FK_slice_open hMe267
                   have hv267_0 := hcc267 0 _ rfl
                   rw [Nat.add_zero, show ((Kd.slice 2 (Kd.int .i64))).sz = 1 from rfl, Nat.mul_one] at hv267_0
                   replace hv267_0 := Option.some.inj (hv267_0.symm.trans hx267_0)
                   injection hv267_0 with hva_ hvn_ hvc_
                   rw [hva_] at ge267_0
                   rw [hvc_] at ul267_0
                   have HL267_0 := Aside0.mk (show Kd.V (Kd.int .i64) 2 _ w.heap.size _ _ (rd_L3 t247 (rd (rd_L3 t250 x17_1) x18_2)) from Kd.V_mk ul267_0 ge267_0)
                   clear hva_ hvn_ hvc_ ge267_0 ul267_0
                   clear hcc267 hce267
                   have HR267_0 := Aside0.mk hi267_0
                   have HC267_0 := Aside0.mk hl267_0
                   clear hi267_0 hl267_0
                   replace p267 := eq_true p267
                   replace q267 := eq_true q267
                   have p268 : 0 ≤ (x17_1 : Int) := of_decide_eq_true (by assumption)
                   have q268 : x17_1 < (t247.length : Int) := of_decide_eq_true (by assumption)
                   obtain ⟨ad268, A268_0, c268_0, e268, hx268_0, hl268_0, hi268_0⟩ := at_L3 (Kd.N_reads' HO_13.out).2.2 x17_1 p268 q268
                   obtain rfl : ad267 = ad268 := (by injection e268)
                   obtain ⟨ce268, hce268, hMe268, hcc268⟩ := Kd.N_get HO_13.out [] x17_1 p268 (by first | exact q268 | exact of_decide_eq_true (by assumption) | (have e_ := (Kd.N_reads' HO_13.out).1; omega))
                   obtain ⟨ua268_0, uc268_0, rfl, ul268_0, ge268_0⟩ := Kd.FK_slice_open hMe268
                   have hv268_0 := hcc268 0 _ rfl
                   rw [Nat.add_zero, show ((Kd.slice 2 (Kd.int .i64))).sz = 1 from rfl, Nat.mul_one] at hv268_0
                   replace hv268_0 := Option.some.inj (hv268_0.symm.trans hx268_0)
                   injection hv268_0 with hva_ hvn_ hvc_
                   rw [hva_] at ge268_0
                   rw [hvc_] at ul268_0
                   have HL268_0 := Aside0.mk (show Kd.V (Kd.int .i64) 2 _ w.heap.size _ _ (rd_L3 t247 x17_1) from Kd.V_mk ul268_0 ge268_0)
                   clear hva_ hvn_ hvc_ ge268_0 ul268_0
                   clear hcc268 hce268
                   have HR268_0 := Aside0.mk hi268_0
                   have HC268_0 := Aside0.mk hl268_0
                   clear hi268_0 hl268_0
                   replace p268 := eq_true p268
                   replace q268 := eq_true q268
                   go_upto_if 87 with (first | (go_at_call 42; (with_reducible refine (spec_l00Same.calls k2 _ _ (rd_L3 t247 (rd (rd_L3 t250 x17_1) x18_2)) _ _ (rd_L3 t247 x17_1) t269 _ ?side1 ?side2 ?side3 ?side4 A41.out).mono ?_); (case side1 => repeat (first | exact (by repeat (first | (with_reducible exact HR267_0.out) | (with_reducible refine Kd.C_alloc ?_ _) | (with_reducible refine Kd.C_drewN ?_ _) | (with_reducible refine Kd.C_drew ?_) | exact HR267_0.out)) | (with_reducible refine Kd.C_alloc ?_ _) | (with_reducible refine Kd.C_drewN ?_ _) | (with_reducible refine Kd.C_drew ?_))); (case side2 => exact HC267_0.out); (case side3 => repeat (first | exact (by repeat (first | (with_reducible exact HR268_0.out) | (with_reducible refine Kd.C_alloc ?_ _) | (with_reducible refine Kd.C_drewN ?_ _) | (with_reducible refine Kd.C_drew ?_) | exact HR268_0.out)) | (with_reducible refine Kd.C_alloc ?_ _) | (with_reducible refine Kd.C_drewN ?_ _) | (with_reducible refine Kd.C_drew ?_))); (case side4 => exact HC268_0.out); rintro e w' ⟨rfl, ⟨nd, rfl⟩⟩; (try first | exact ⟨rfl, _, World.drewN_drewN _ _ _⟩ | exact ⟨rfl, _, Eq.trans (World.drewN_drewN _ _ _) (congrArg (World.drewN _) (Nat.add_assoc _ _ _))⟩)))
                   repeat (go_quiet (first | (go_at_call 42; (with_reducible refine (spec_l00Same.calls k2 _ _ (rd_L3 t247 (rd (rd_L3 t250 x17_1) x18_2)) _ _ (rd_L3 t247 x17_1) t269 _ ?side1 ?side2 ?side3 ?side4 A41.out).mono ?_); (case side1 => repeat (first | exact (by repeat (first | (with_reducible exact HR267_0.out) | (with_reducible refine Kd.C_alloc ?_ _) | (with_reducible refine Kd.C_drewN ?_ _) | (with_reducible refine Kd.C_drew ?_) | exact HR267_0.out)) | (with_reducible refine Kd.C_alloc ?_ _) | (with_reducible refine Kd.C_drewN ?_ _) | (with_reducible refine Kd.C_drew ?_))); (case side2 => exact HC267_0.out); (case side3 => repeat (first | exact (by repeat (first | (with_reducible exact HR268_0.out) | (with_reducible refine Kd.C_alloc ?_ _) | (with_reducible refine Kd.C_drewN ?_ _) | (with_reducible refine Kd.C_drew ?_) | exact HR268_0.out)) | (with_reducible refine Kd.C_alloc ?_ _) | (with_reducible refine Kd.C_drewN ?_ _) | (with_reducible refine Kd.C_drew ?_))); (case side4 => exact HC268_0.out); rintro e w' ⟨rfl, ⟨nd, rfl⟩⟩; (try first | exact ⟨rfl, _, World.drewN_drewN _ _ _⟩ | exact ⟨rfl, _, Eq.trans (World.drewN_drewN _ _ _) (congrArg (World.drewN _) (Nat.add_assoc _ _ _))⟩))); go_upto_if 87 with (first | (go_at_call 42; (with_reducible refine (spec_l00Same.calls k2 _ _ (rd_L3 t247 (rd (rd_L3 t250 x17_1) x18_2)) _ _ (rd_L3 t247 x17_1) t269 _ ?side1 ?side2 ?side3 ?side4 A41.out).mono ?_); (case side1 => repeat (first | exact (by repeat (first | (with_reducible exact HR267_0.out) | (with_reducible refine Kd.C_alloc ?_ _) | (with_reducible refine Kd.C_drewN ?_ _) | (with_reducible refine Kd.C_drew ?_) | exact HR267_0.out)) | (with_reducible refine Kd.C_alloc ?_ _) | (with_reducible refine Kd.C_drewN ?_ _) | (with_reducible refine Kd.C_drew ?_))); (case side2 => exact HC267_0.out); (case side3 => repeat (first | exact (by repeat (first | (with_reducible exact HR268_0.out) | (with_reducible refine Kd.C_alloc ?_ _) | (with_reducible refine Kd.C_drewN ?_ _) | (with_reducible refine Kd.C_drew ?_) | exact HR268_0.out)) | (with_reducible refine Kd.C_alloc ?_ _) | (with_reducible refine Kd.C_drewN ?_ _) | (with_reducible refine Kd.C_drew ?_))); (case side4 => exact HC268_0.out); rintro e w' ⟨rfl, ⟨nd, rfl⟩⟩; (try first | exact ⟨rfl, _, World.drewN_drewN _ _ _⟩ | exact ⟨rfl, _, Eq.trans (World.drewN_drewN _ _ _) (congrArg (World.drewN _) (Nat.add_assoc _ _ _))⟩))))
                   (try simp only [Act.put, List.setIfInBounds_toArray, List.set_cons_zero, List.set_cons_succ])
                   go_cut [19] (fun v19 wc => ∃ (kq : Nat) (x19_41 : Int), v19 = .int .i64 x19_41 ∧ Aside0 (spec_NumberedVariation.j2 kq x3_2 x4_2 t247 t250 t253 x16_2 x17_1 x18_2 x19_41 = some (r1, r2)) ∧ Aside0 (kq ≤ k2) ∧ Aside0 (Kd.N (Kd.slice 2 (Kd.int .i64)) 25 wc w.heap.size (fun k_ => some k_ ≠ ((.slice (some ad264) t250.length co28) : Value).ownBlock ∧ some k_ ≠ ((.slice (some ad256) t253.length co30) : Value).ownBlock ∧ some k_ ≠ (u16 : Value).ownBlock) (.slice (some ad267) t247.length co26) t247) ∧ Aside0 (Kd.N (Kd.slice 2 (Kd.int .i64)) 25 wc w.heap.size (fun k_ => some k_ ≠ ((.slice (some ad267) t247.length co26) : Value).ownBlock ∧ some k_ ≠ ((.slice (some ad256) t253.length co30) : Value).ownBlock ∧ some k_ ≠ (u16 : Value).ownBlock) (.slice (some ad264) t250.length co28) t250) ∧ Aside0 (Kd.N (Kd.slice 2 (Kd.int .i64)) 25 wc w.heap.size (fun k_ => some k_ ≠ ((.slice (some ad267) t247.length co26) : Value).ownBlock ∧ some k_ ≠ ((.slice (some ad264) t250.length co28) : Value).ownBlock ∧ some k_ ≠ (u16 : Value).ownBlock) (.slice (some ad256) t253.length co30) t253) ∧ Aside0 (Kd.R (Kd.int .i64) 2 wc w.heap.size (fun _ => True) u16 x16_2) ∧ Aside0 (Kd.C (Kd.int .i64) wc (some ad266) (rd_L3 t250 x17_1).length (rd_L3 t250 x17_1)) ∧ Aside0 (Kd.C (Kd.int .i64) wc (some ad266) (rd_L3 t250 x17_1).length (rd_L3 t250 x17_1)) ∧ Aside0 (Kd.C (Kd.int .i64) wc A267_0 (rd_L3 t247 (rd (rd_L3 t250 x17_1) x18_2)).length (rd_L3 t247 (rd (rd_L3 t250 x17_1) x18_2))) ∧ Aside0 (Kd.C (Kd.int .i64) wc A268_0 (rd_L3 t247 x17_1).length (rd_L3 t247 x17_1)) ∧ Aside0 (Below w.heap.size w wc))
                   case first =>
                    have H := HC42.out
                    clear HC42
                    by_cases c43 : t269 = true
                    ·subst c43
                     have H1 : (spec_NumberedVariation.j2 k2 x3_2 x4_2 t247 t250 t253 x16_2 x17_1 x18_2 x3_2) = some (r1, r2) := by rw [if_pos rfl] at H; exact H
                     clear H
                     have H := H1
                     clear H1
                     have H' := Aside0.mk H
                     clear H
                     go_wp2
                     repeat (go_quiet (fail); try go_wp2)
                     go_meet
                     case rel => exact ⟨_, (x3_2), (by first | rfl | (simp; done) | (simp [*]; done)), H', ⟨by have := HK1.out; have := HK2.out; first | omega | exact Nat.le_refl _⟩, ⟨by (with_reducible repeat (first | apply Kd.N_alloc | apply Kd.N_drewN | apply Kd.N_drew)); exact HO_13.out⟩, ⟨by (with_reducible repeat (first | apply Kd.N_alloc | apply Kd.N_drewN | apply Kd.N_drew)); exact HO_14.out⟩, ⟨by (with_reducible repeat (first | apply Kd.N_alloc | apply Kd.N_drewN | apply Kd.N_drew)); exact HO_15.out⟩, ⟨by (with_reducible repeat (first | apply Kd.R_alloc | apply Kd.R_drewN | apply Kd.R_drew)); exact HO_16.out⟩, ⟨by repeat (first | (with_reducible exact HR264_0.out) | (with_reducible refine Kd.C_alloc ?_ _) | (with_reducible refine Kd.C_drewN ?_ _) | (with_reducible refine Kd.C_drew ?_) | exact HR264_0.out)⟩, ⟨by repeat (first | (with_reducible exact HR265_0.out) | (with_reducible refine Kd.C_alloc ?_ _) | (with_reducible refine Kd.C_drewN ?_ _) | (with_reducible refine Kd.C_drew ?_) | exact HR265_0.out)⟩, ⟨by repeat (first | (with_reducible exact HR267_0.out) | (with_reducible refine Kd.C_alloc ?_ _) | (with_reducible refine Kd.C_drewN ?_ _) | (with_reducible refine Kd.C_drew ?_) | exact HR267_0.out)⟩, ⟨by repeat (first | (with_reducible exact HR268_0.out) | (with_reducible refine Kd.C_alloc ?_ _) | (with_reducible refine Kd.C_drewN ?_ _) | (with_reducible refine Kd.C_drew ?_) | exact HR268_0.out)⟩, ⟨by repeat (first | exact HB.out | apply below_alloc | apply pw_below_drewN | apply below_drew1)⟩⟩
                    ·replace c43 := Bool.eq_false_iff.mpr c43
                     subst c43
                     have H1 : (spec_NumberedVariation.j2 k2 x3_2 x4_2 t247 t250 t253 x16_2 x17_1 x18_2 (wrap64 (x3_2 - 1))) = some (r1, r2) := by rw [if_neg (show ¬ (false = true) by decide)] at H; exact H
                     clear H
                     have H := H1
                     clear H1
                     have H' := Aside0.mk H
                     clear H
                     go_wp2
                     repeat (go_quiet (fail); try go_wp2)
                     go_meet
                     case rel => exact ⟨_, (wrap64 (x3_2 - 1)), (by first | rfl | (simp; done) | (simp [*]; done)), H', ⟨by have := HK1.out; have := HK2.out; first | omega | exact Nat.le_refl _⟩, ⟨by (with_reducible repeat (first | apply Kd.N_alloc | apply Kd.N_drewN | apply Kd.N_drew)); exact HO_13.out⟩, ⟨by (with_reducible repeat (first | apply Kd.N_alloc | apply Kd.N_drewN | apply Kd.N_drew)); exact HO_14.out⟩, ⟨by (with_reducible repeat (first | apply Kd.N_alloc | apply Kd.N_drewN | apply Kd.N_drew)); exact HO_15.out⟩, ⟨by (with_reducible repeat (first | apply Kd.R_alloc | apply Kd.R_drewN | apply Kd.R_drew)); exact HO_16.out⟩, ⟨by repeat (first | (with_reducible exact HR264_0.out) | (with_reducible refine Kd.C_alloc ?_ _) | (with_reducible refine Kd.C_drewN ?_ _) | (with_reducible refine Kd.C_drew ?_) | exact HR264_0.out)⟩, ⟨by repeat (first | (with_reducible exact HR265_0.out) | (with_reducible refine Kd.C_alloc ?_ _) | (with_reducible refine Kd.C_drewN ?_ _) | (with_reducible refine Kd.C_drew ?_) | exact HR265_0.out)⟩, ⟨by repeat (first | (with_reducible exact HR267_0.out) | (with_reducible refine Kd.C_alloc ?_ _) | (with_reducible refine Kd.C_drewN ?_ _) | (with_reducible refine Kd.C_drew ?_) | exact HR267_0.out)⟩, ⟨by repeat (first | (with_reducible exact HR268_0.out) | (with_reducible refine Kd.C_alloc ?_ _) | (with_reducible refine Kd.C_drewN ?_ _) | (with_reducible refine Kd.C_drew ?_) | exact HR268_0.out)⟩, ⟨by repeat (first | exact HB.out | apply below_alloc | apply pw_below_drewN | apply below_drew1)⟩⟩
                   case rest =>
                    clear HC42
                    try clear c1
                    try clear c2
                    try clear p2
                    try clear q2
                    try clear hx2
                    try clear qi2
                    try clear c3
                    try clear c4
                    try clear p6
                    try clear c7
                    try clear c7b0
                    try clear c7b1
                    try clear c11
                    try clear c11b0
                    try clear c11b1
                    try clear c12
                    try clear c12b0
                    try clear c13
                    try clear c13b0
                    try clear c14
                    try clear c14b0
                    try clear c18
                    try clear c23
                    try clear c25
                    try clear p25
                    try clear q25
                    try clear hx25
                    try clear qi25
                    try clear c26
                    try clear p26
                    try clear q26
                    try clear hx26
                    try clear c33
                    try clear c33b0
                    try clear c34
                    try clear c34b0
                    try clear c35
                    try clear c35b0
                    try clear c36
                    try clear c36b0
                    try clear c37
                    try clear c37b0
                    try clear c38
                    try clear c38b0
                    try clear c39
                    try clear c39b0
                    try clear c40
                    try clear c40b0
                    try clear c43
                    try clear hx256_0
                    try clear hx257_0
                    try clear hx258_0
                    try clear hx259_0
                    try clear hx264_0
                    try clear hx265_0
                    try clear hx266_0
                    try clear hx267_0
                    try clear hx268_0
                    try clear p2
                    try clear p25
                    try clear p256
                    try clear p257
                    try clear p258
                    try clear p259
                    try clear p264
                    try clear p265
                    try clear p266
                    try clear p267
                    try clear p268
                    try clear p6
                    try clear q2
                    try clear q25
                    try clear q256
                    try clear q257
                    try clear q258
                    try clear q259
                    try clear q264
                    try clear q265
                    try clear q266
                    try clear q267
                    try clear q268
                    obtain ⟨kq, x19_41, rfl, HA, HJ41, HO_13, HO_14, HO_15, HO_16, HR264_0, HR265_0, HR267_0, HR268_0, HB⟩ := hcut
                    cases kq with
                    | zero => exact absurd HA.out (by simp [spec_NumberedVariation.j2])
                    | succ kj41 =>
                     have H := HA.out
                     clear HA
                     simp only [spec_NumberedVariation.j2] at H
                     by_cases c44 : x19_41 < 0
                     ·rw [if_pos c44] at H
                      have c44b0 : decide (x19_41 < 0) = true := decide_eq_true c44
                      clear c44
                      have H' := Aside0.mk H
                      clear H
                      go_wp2
                      repeat (go_quiet (fail); try go_wp2)
                      go_roundg kj41
                      case measure => have := HK1.out; have := HK2.out; have := HJ41.out; omega
                      case rel => exact ⟨(x3_2), (x4_2), (x16_2), (wrap64 (x18_2 + 1)), (by first | rfl | (simp; done) | (simp [*]; done)), (by first | rfl | (simp; done) | (simp [*]; done)), (by first | rfl | (simp; done) | (simp [*]; done)), H', ⟨by have := HK1.out; have := HK2.out; have := HJ41.out; omega⟩, ⟨by (with_reducible repeat (first | apply Kd.N_alloc | apply Kd.N_drewN | apply Kd.N_drew)); exact HO_13.out⟩, ⟨by (with_reducible repeat (first | apply Kd.N_alloc | apply Kd.N_drewN | apply Kd.N_drew)); exact HO_14.out⟩, ⟨by (with_reducible repeat (first | apply Kd.N_alloc | apply Kd.N_drewN | apply Kd.N_drew)); exact HO_15.out⟩, ⟨by (with_reducible repeat (first | apply Kd.R_alloc | apply Kd.R_drewN | apply Kd.R_drew)); exact HO_16.out⟩, ⟨by repeat (first | exact HB.out | apply below_alloc | apply pw_below_drewN | apply below_drew1)⟩⟩
                     ·rw [if_neg c44] at H
                      have c44b0 : decide (x19_41 < 0) = false := decide_eq_false c44
                      clear c44
                      obtain ⟨ji45, hji45⟩ : ∃ j_ : Int, (wrap64 (x17_1 + 1)) = j_ := ⟨_, rfl⟩
                      replace H : (if 0 ≤ (ji45) then (if (ji45) < (t253.length : Int) then (if 0 ≤ x19_41 then (if x19_41 < ((rd_L3 t253 (ji45)).length : Int) then (if x4_2 < (rd (rd_L3 t253 (ji45)) x19_41) then (if 0 ≤ x17_1 then (if x17_1 < (t250.length : Int) then (if 0 ≤ x18_2 then (if x18_2 < ((rd_L3 t250 x17_1).length : Int) then (if 0 ≤ (rd (rd_L3 t250 x17_1) x18_2) then (if (rd (rd_L3 t250 x17_1) x18_2) < (t247.length : Int) then (if x16_2.length + (rd_L3 t247 (rd (rd_L3 t250 x17_1) x18_2)).length < 17592186044416 then (spec_NumberedVariation.l0 kj41 x19_41 x4_2 t247 t250 t253 (x16_2 ++ (rd_L3 t247 (rd (rd_L3 t250 x17_1) x18_2))) ji45) else (none)) else (none)) else (none)) else (none)) else (none)) else (none)) else (none)) else (spec_NumberedVariation.l1 kj41 x3_2 (wrap64 (x4_2 - (rd (rd_L3 t253 (ji45)) x19_41))) t247 t250 t253 x16_2 x17_1 (wrap64 (x18_2 + 1)))) else (none)) else (none)) else (none)) else (none)) = some (r1, r2) := by first | (rw [hji45] at H; exact H) | (simp only [hji45] at H ⊢; exact H)
                      have hji45w : (IntKind.i64.wrap (x17_1 + 1)) = ji45 := (i64_w _).trans hji45
                      by_cases c46 : 0 ≤ (ji45)
                      ·rw [if_pos c46] at H
                       have c46b0 : decide (0 ≤ (ji45)) = true := decide_eq_true c46
                       clear c46
                       by_cases c47 : (ji45) < (t253.length : Int)
                       ·rw [if_pos c47] at H
                        have c47b0 : decide ((ji45) < (t253.length : Int)) = true := decide_eq_true c47
                        clear c47
                        by_cases c48 : 0 ≤ x19_41
                        ·rw [if_pos c48] at H
                         have c48b0 : decide (0 ≤ x19_41) = true := decide_eq_true c48
                         clear c48
                         by_cases c49 : x19_41 < ((rd_L3 t253 (ji45)).length : Int)
                         ·rw [if_pos c49] at H
                          have c49b0 : decide (x19_41 < ((rd_L3 t253 (ji45)).length : Int)) = true := decide_eq_true c49
                          clear c49
                          by_cases c50 : x4_2 < (rd (rd_L3 t253 (ji45)) x19_41)
                          ·rw [if_pos c50] at H
                           have c50b0 : decide (x4_2 < (rd (rd_L3 t253 (ji45)) x19_41)) = true := decide_eq_true c50
                           clear c50
                           by_cases c51 : 0 ≤ x17_1
                           ·rw [if_pos c51] at H
                            have c51b0 : decide (0 ≤ x17_1) = true := decide_eq_true c51
                            clear c51
                            by_cases c52 : x17_1 < (t250.length : Int)
                            ·rw [if_pos c52] at H
                             have c52b0 : decide (x17_1 < (t250.length : Int)) = true := decide_eq_true c52
                             clear c52
                             by_cases c53 : 0 ≤ x18_2
                             ·rw [if_pos c53] at H
                              have c53b0 : decide (0 ≤ x18_2) = true := decide_eq_true c53
                              clear c53
                              by_cases c54 : x18_2 < ((rd_L3 t250 x17_1).length : Int)
                              ·rw [if_pos c54] at H
                               have c54b0 : decide (x18_2 < ((rd_L3 t250 x17_1).length : Int)) = true := decide_eq_true c54
                               clear c54
                               by_cases c55 : 0 ≤ (rd (rd_L3 t250 x17_1) x18_2)
                               ·rw [if_pos c55] at H
                                have c55b0 : decide (0 ≤ (rd (rd_L3 t250 x17_1) x18_2)) = true := decide_eq_true c55
                                clear c55
                                by_cases c56 : (rd (rd_L3 t250 x17_1) x18_2) < (t247.length : Int)
                                ·rw [if_pos c56] at H
                                 have c56b0 : decide ((rd (rd_L3 t250 x17_1) x18_2) < (t247.length : Int)) = true := decide_eq_true c56
                                 clear c56
                                 by_cases c57 : x16_2.length + (rd_L3 t247 (rd (rd_L3 t250 x17_1) x18_2)).length < 17592186044416
                                 ·rw [if_pos c57] at H
                                  have LMc57 := Aside0.mk c57
                                  clear c57
                                  obtain ⟨y275, hy275⟩ : ∃ y_ : List Int, y_ = (x16_2 ++ (rd_L3 t247 (rd (rd_L3 t250 x17_1) x18_2))) := ⟨_, rfl⟩
                                  replace H : (spec_NumberedVariation.l0 kj41 x19_41 x4_2 t247 t250 t253 y275 ji45) = some (r1, r2) := by first | (rw [hy275]; with_reducible exact H) | (have H2_ := (Option.bind_some _ _).symm.trans H; rw [hy275]; with_reducible exact H2_) | (have H2_ := (Option.bind_some _ _).symm.trans H; with_reducible exact H2_) | with_reducible exact H | (rw [hy275]; exact H) | exact H
                                  have Ny275 := Aside0.mk hy275
                                  clear hy275
                                  have H' := Aside0.mk H
                                  clear H
                                  have p270 : 0 ≤ ((ji45) : Int) := of_decide_eq_true (by assumption)
                                  have q270 : (ji45) < (t253.length : Int) := of_decide_eq_true (by assumption)
                                  obtain ⟨ad270, A270_0, c270_0, e270, hx270_0, hl270_0, hi270_0⟩ := at_L3 (Kd.N_reads' HO_15.out).2.2 (ji45) p270 q270
                                  obtain rfl : ad256 = ad270 := (by injection e270)
                                  obtain ⟨ce270, hce270, hMe270, hcc270⟩ := Kd.N_get HO_15.out [] (ji45) p270 (by first | exact q270 | exact of_decide_eq_true (by assumption) | (have e_ := (Kd.N_reads' HO_15.out).1; omega))
                                  obtain ⟨ua270_0, uc270_0, rfl, ul270_0, ge270_0⟩ := Kd.FK_slice_open hMe270
                                  have hv270_0 := hcc270 0 _ rfl
                                  rw [Nat.add_zero, show ((Kd.slice 2 (Kd.int .i64))).sz = 1 from rfl, Nat.mul_one] at hv270_0
                                  replace hv270_0 := Option.some.inj (hv270_0.symm.trans hx270_0)
                                  injection hv270_0 with hva_ hvn_ hvc_
                                  rw [hva_] at ge270_0
                                  rw [hvc_] at ul270_0
                                  have HL270_0 := Aside0.mk (show Kd.V (Kd.int .i64) 2 _ w.heap.size _ _ (rd_L3 t253 (ji45)) from Kd.V_mk ul270_0 ge270_0)
                                  clear hva_ hvn_ hvc_ ge270_0 ul270_0
                                  clear hcc270 hce270
                                  have HR270_0 := Aside0.mk hi270_0
                                  have HC270_0 := Aside0.mk hl270_0
                                  clear hi270_0 hl270_0
                                  replace p270 := eq_true p270
                                  replace q270 := eq_true q270
                                  have p271 : 0 ≤ (x19_41 : Int) := of_decide_eq_true (by assumption)
                                  have q271 : x19_41 < ((rd_L3 t253 (ji45)).length : Int) := of_decide_eq_true (by assumption)
                                  obtain ⟨ad271, e271, hx271_0⟩ := Kd.at_int (by repeat (first | (with_reducible exact HR270_0.out) | (with_reducible refine Kd.C_alloc ?_ _) | (with_reducible refine Kd.C_drewN ?_ _) | (with_reducible refine Kd.C_drew ?_) | exact HR270_0.out)) x19_41 p271 q271
                                  cases e271
                                  replace p271 := eq_true p271
                                  replace q271 := eq_true q271
                                  have p272 : 0 ≤ (x17_1 : Int) := of_decide_eq_true (by assumption)
                                  have q272 : x17_1 < (t250.length : Int) := of_decide_eq_true (by assumption)
                                  obtain ⟨ad272, A272_0, c272_0, e272, hx272_0, hl272_0, hi272_0⟩ := at_L3 (Kd.N_reads' HO_14.out).2.2 x17_1 p272 q272
                                  obtain rfl : ad264 = ad272 := (by injection e272)
                                  obtain ⟨ce272, hce272, hMe272, hcc272⟩ := Kd.N_get HO_14.out [] x17_1 p272 (by first | exact q272 | exact of_decide_eq_true (by assumption) | (have e_ := (Kd.N_reads' HO_14.out).1; omega))
                                  obtain ⟨ua272_0, uc272_0, rfl, ul272_0, ge272_0⟩ := Kd.FK_slice_open hMe272
                                  have hv272_0 := hcc272 0 _ rfl
                                  rw [Nat.add_zero, show ((Kd.slice 2 (Kd.int .i64))).sz = 1 from rfl, Nat.mul_one] at hv272_0
                                  replace hv272_0 := Option.some.inj (hv272_0.symm.trans hx272_0)
                                  injection hv272_0 with hva_ hvn_ hvc_
                                  rw [hva_] at ge272_0
                                  rw [hvc_] at ul272_0
                                  have HL272_0 := Aside0.mk (show Kd.V (Kd.int .i64) 2 _ w.heap.size _ _ (rd_L3 t250 x17_1) from Kd.V_mk ul272_0 ge272_0)
                                  clear hva_ hvn_ hvc_ ge272_0 ul272_0
                                  clear hcc272 hce272
                                  have HR272_0 := Aside0.mk hi272_0
                                  have HC272_0 := Aside0.mk hl272_0
                                  clear hi272_0 hl272_0
                                  replace p272 := eq_true p272
                                  replace q272 := eq_true q272
                                  have p273 : 0 ≤ (x18_2 : Int) := of_decide_eq_true (by assumption)
                                  have q273 : x18_2 < ((rd_L3 t250 x17_1).length : Int) := of_decide_eq_true (by assumption)
                                  obtain ⟨ad273, e273, hx273_0⟩ := Kd.at_int (by repeat (first | (with_reducible exact HR272_0.out) | (with_reducible refine Kd.C_alloc ?_ _) | (with_reducible refine Kd.C_drewN ?_ _) | (with_reducible refine Kd.C_drew ?_) | exact HR272_0.out)) x18_2 p273 q273
                                  cases e273
                                  replace p273 := eq_true p273
                                  replace q273 := eq_true q273
                                  have p274 : 0 ≤ ((rd (rd_L3 t250 x17_1) x18_2) : Int) := of_decide_eq_true (by assumption)
                                  have q274 : (rd (rd_L3 t250 x17_1) x18_2) < (t247.length : Int) := of_decide_eq_true (by assumption)
                                  obtain ⟨ad274, A274_0, c274_0, e274, hx274_0, hl274_0, hi274_0⟩ := at_L3 (Kd.N_reads' HO_13.out).2.2 (rd (rd_L3 t250 x17_1) x18_2) p274 q274
                                  obtain rfl : ad267 = ad274 := (by injection e274)
                                  obtain ⟨ce274, hce274, hMe274, hcc274⟩ := Kd.N_get HO_13.out [] (rd (rd_L3 t250 x17_1) x18_2) p274 (by first | exact q274 | exact of_decide_eq_true (by assumption) | (have e_ := (Kd.N_reads' HO_13.out).1; omega))
                                  obtain ⟨ua274_0, uc274_0, rfl, ul274_0, ge274_0⟩ := Kd.FK_slice_open hMe274
                                  have hv274_0 := hcc274 0 _ rfl
                                  rw [Nat.add_zero, show ((Kd.slice 2 (Kd.int .i64))).sz = 1 from rfl, Nat.mul_one] at hv274_0
                                  replace hv274_0 := Option.some.inj (hv274_0.symm.trans hx274_0)
                                  injection hv274_0 with hva_ hvn_ hvc_
                                  rw [hva_] at ge274_0
                                  rw [hvc_] at ul274_0
                                  have HL274_0 := Aside0.mk (show Kd.V (Kd.int .i64) 2 _ w.heap.size _ _ (rd_L3 t247 (rd (rd_L3 t250 x17_1) x18_2)) from Kd.V_mk ul274_0 ge274_0)
                                  clear hva_ hvn_ hvc_ ge274_0 ul274_0
                                  clear hcc274 hce274
                                  have HR274_0 := Aside0.mk hi274_0
                                  have HC274_0 := Aside0.mk hl274_0
                                  clear hi274_0 hl274_0
                                  replace p274 := eq_true p274
                                  replace q274 := eq_true q274
                                  go_wp2_with (first | ((with_reducible refine gate_builtin (b := .append) (xs := #[.tmp 102, .tmp 112]) rfl ?_); at_builtin; refine Kd.R_append_rows (Kd.int .i64) (w0 := w) w.heap.size rfl (.tmp 102) (.tmp 112) 25 2 (.int .i64 0) 8 rfl Try.underlying25 info2 rfl (by decide) (by omega) u16 x16_2 (rd_L3 t247 (rd (rd_L3 t250 x17_1) x18_2)) _ _ _ (fun _ => True) (fun _ => False) rfl rfl ?aO ?aR (fun _ _ h => h) (fun _ h => h.elim) ?aF ?aB ?aS ?aL ?_; (case aR => repeat (first | exact (by repeat (first | (with_reducible exact HR274_0.out) | (with_reducible refine Kd.C_alloc ?_ _) | (with_reducible refine Kd.C_drewN ?_ _) | (with_reducible refine Kd.C_drew ?_) | exact HR274_0.out)) | (with_reducible refine Kd.C_alloc ?_ _) | (with_reducible refine Kd.C_drewN ?_ _) | (with_reducible refine Kd.C_drew ?_))); (case aB => exact (by repeat (first | exact HB.out | apply below_alloc | apply pw_below_drewN | apply below_drew1))); (case aF => exact (fun _ _ => trivial)); (case aO => exact (by (with_reducible repeat (first | apply Kd.R_alloc | apply Kd.R_drewN | apply Kd.R_drew)); exact HO_16.out)); (case aS => exact (below_size (by repeat (first | exact HB.out | apply below_alloc | apply pw_below_drewN | apply below_drew1)))); (case aL => have := LMc57.out; omega); intro v276 w58 ho hb hg hat; rw [← Ny275.out] at ho; have n0_ := Aside0.mk (Kd.N_afterv (ok := (fun k_ => some k_ ≠ (.slice (some ad264) t250.length co28 : Value).ownBlock ∧ some k_ ≠ (.slice (some ad256) t253.length co30 : Value).ownBlock)) (by (with_reducible repeat (first | apply Kd.N_alloc | apply Kd.N_drewN | apply Kd.N_drew)); exact Kd.N_mono HO_13.out (fun _ hk => ⟨⟨hk.1, hk.2.1⟩, hk.2.2⟩)) hg hat); have n1_ := Aside0.mk (Kd.N_afterv (ok := (fun k_ => some k_ ≠ (.slice (some ad267) t247.length co26 : Value).ownBlock ∧ some k_ ≠ (.slice (some ad256) t253.length co30 : Value).ownBlock)) (by (with_reducible repeat (first | apply Kd.N_alloc | apply Kd.N_drewN | apply Kd.N_drew)); exact Kd.N_mono HO_14.out (fun _ hk => ⟨⟨hk.1, hk.2.1⟩, hk.2.2⟩)) hg hat); have n2_ := Aside0.mk (Kd.N_afterv (ok := (fun k_ => some k_ ≠ (.slice (some ad267) t247.length co26 : Value).ownBlock ∧ some k_ ≠ (.slice (some ad264) t250.length co28 : Value).ownBlock)) (by (with_reducible repeat (first | apply Kd.N_alloc | apply Kd.N_drewN | apply Kd.N_drew)); exact Kd.N_mono HO_15.out (fun _ hk => ⟨⟨hk.1, hk.2.1⟩, hk.2.2⟩)) hg hat); have n3_ := Aside0.mk (Kd.V_afterv (ok := (fun k_ => some k_ ≠ (.slice (some ad267) t247.length co26 : Value).ownBlock ∧ some k_ ≠ (.slice (some ad264) t250.length co28 : Value).ownBlock ∧ some k_ ≠ (.slice (some ad256) t253.length co30 : Value).ownBlock)) (by (with_reducible repeat (first | apply Kd.V_alloc | apply Kd.V_drewN | apply Kd.V_drew)); exact Kd.V_mono HL270_0.out (fun _ hk => ⟨⟨hk.1.1, ⟨hk.1.2.1, hk.2⟩⟩, hk.1.2.2⟩)) hg hat); have n4_ := Aside0.mk (Kd.V_afterv (ok := (fun k_ => some k_ ≠ (.slice (some ad267) t247.length co26 : Value).ownBlock ∧ some k_ ≠ (.slice (some ad264) t250.length co28 : Value).ownBlock ∧ some k_ ≠ (.slice (some ad256) t253.length co30 : Value).ownBlock)) (by (with_reducible repeat (first | apply Kd.V_alloc | apply Kd.V_drewN | apply Kd.V_drew)); exact Kd.V_mono HL272_0.out (fun _ hk => ⟨⟨hk.1.1, ⟨hk.2, hk.1.2.1⟩⟩, hk.1.2.2⟩)) hg hat); have n5_ := Aside0.mk (Kd.V_afterv (ok := (fun k_ => some k_ ≠ (.slice (some ad267) t247.length co26 : Value).ownBlock ∧ some k_ ≠ (.slice (some ad264) t250.length co28 : Value).ownBlock ∧ some k_ ≠ (.slice (some ad256) t253.length co30 : Value).ownBlock)) (by (with_reducible repeat (first | apply Kd.V_alloc | apply Kd.V_drewN | apply Kd.V_drew)); exact Kd.V_mono HL274_0.out (fun _ hk => ⟨⟨hk.2, ⟨hk.1.1, hk.1.2.1⟩⟩, hk.1.2.2⟩)) hg hat); have n6_ := Aside0.mk (hb); have n7_ := Aside0.mk (ho); clear HO_13; clear HO_14; clear HO_15; clear HL270_0; clear HL272_0; clear HL274_0; clear HB; clear HO_16; have HO_13 := n0_; have HO_14 := n1_; have HO_15 := n2_; have HL270_0 := n3_; have HL272_0 := n4_; have HL274_0 := n5_; have HB := n6_; have HO277 := n7_; clear n0_ n1_ n2_ n3_ n4_ n5_ n6_ n7_; clear ho hb hg hat))
                                  repeat (go_quiet (first | ((with_reducible refine gate_builtin (b := .append) (xs := #[.tmp 102, .tmp 112]) rfl ?_); at_builtin; refine Kd.R_append_rows (Kd.int .i64) (w0 := w) w.heap.size rfl (.tmp 102) (.tmp 112) 25 2 (.int .i64 0) 8 rfl Try.underlying25 info2 rfl (by decide) (by omega) u16 x16_2 (rd_L3 t247 (rd (rd_L3 t250 x17_1) x18_2)) _ _ _ (fun _ => True) (fun _ => False) rfl rfl ?aO ?aR (fun _ _ h => h) (fun _ h => h.elim) ?aF ?aB ?aS ?aL ?_; (case aR => repeat (first | exact (by repeat (first | (with_reducible exact HR274_0.out) | (with_reducible refine Kd.C_alloc ?_ _) | (with_reducible refine Kd.C_drewN ?_ _) | (with_reducible refine Kd.C_drew ?_) | exact HR274_0.out)) | (with_reducible refine Kd.C_alloc ?_ _) | (with_reducible refine Kd.C_drewN ?_ _) | (with_reducible refine Kd.C_drew ?_))); (case aB => exact (by repeat (first | exact HB.out | apply below_alloc | apply pw_below_drewN | apply below_drew1))); (case aF => exact (fun _ _ => trivial)); (case aO => exact (by (with_reducible repeat (first | apply Kd.R_alloc | apply Kd.R_drewN | apply Kd.R_drew)); exact HO_16.out)); (case aS => exact (below_size (by repeat (first | exact HB.out | apply below_alloc | apply pw_below_drewN | apply below_drew1)))); (case aL => have := LMc57.out; omega); intro v276 w58 ho hb hg hat; rw [← Ny275.out] at ho; have n0_ := Aside0.mk (Kd.N_afterv (ok := (fun k_ => some k_ ≠ (.slice (some ad264) t250.length co28 : Value).ownBlock ∧ some k_ ≠ (.slice (some ad256) t253.length co30 : Value).ownBlock)) (by (with_reducible repeat (first | apply Kd.N_alloc | apply Kd.N_drewN | apply Kd.N_drew)); exact Kd.N_mono HO_13.out (fun _ hk => ⟨⟨hk.1, hk.2.1⟩, hk.2.2⟩)) hg hat); have n1_ := Aside0.mk (Kd.N_afterv (ok := (fun k_ => some k_ ≠ (.slice (some ad267) t247.length co26 : Value).ownBlock ∧ some k_ ≠ (.slice (some ad256) t253.length co30 : Value).ownBlock)) (by (with_reducible repeat (first | apply Kd.N_alloc | apply Kd.N_drewN | apply Kd.N_drew)); exact Kd.N_mono HO_14.out (fun _ hk => ⟨⟨hk.1, hk.2.1⟩, hk.2.2⟩)) hg hat); have n2_ := Aside0.mk (Kd.N_afterv (ok := (fun k_ => some k_ ≠ (.slice (some ad267) t247.length co26 : Value).ownBlock ∧ some k_ ≠ (.slice (some ad264) t250.length co28 : Value).ownBlock)) (by (with_reducible repeat (first | apply Kd.N_alloc | apply Kd.N_drewN | apply Kd.N_drew)); exact Kd.N_mono HO_15.out (fun _ hk => ⟨⟨hk.1, hk.2.1⟩, hk.2.2⟩)) hg hat); have n3_ := Aside0.mk (Kd.V_afterv (ok := (fun k_ => some k_ ≠ (.slice (some ad267) t247.length co26 : Value).ownBlock ∧ some k_ ≠ (.slice (some ad264) t250.length co28 : Value).ownBlock ∧ some k_ ≠ (.slice (some ad256) t253.length co30 : Value).ownBlock)) (by (with_reducible repeat (first | apply Kd.V_alloc | apply Kd.V_drewN | apply Kd.V_drew)); exact Kd.V_mono HL270_0.out (fun _ hk => ⟨⟨hk.1.1, ⟨hk.1.2.1, hk.2⟩⟩, hk.1.2.2⟩)) hg hat); have n4_ := Aside0.mk (Kd.V_afterv (ok := (fun k_ => some k_ ≠ (.slice (some ad267) t247.length co26 : Value).ownBlock ∧ some k_ ≠ (.slice (some ad264) t250.length co28 : Value).ownBlock ∧ some k_ ≠ (.slice (some ad256) t253.length co30 : Value).ownBlock)) (by (with_reducible repeat (first | apply Kd.V_alloc | apply Kd.V_drewN | apply Kd.V_drew)); exact Kd.V_mono HL272_0.out (fun _ hk => ⟨⟨hk.1.1, ⟨hk.2, hk.1.2.1⟩⟩, hk.1.2.2⟩)) hg hat); have n5_ := Aside0.mk (Kd.V_afterv (ok := (fun k_ => some k_ ≠ (.slice (some ad267) t247.length co26 : Value).ownBlock ∧ some k_ ≠ (.slice (some ad264) t250.length co28 : Value).ownBlock ∧ some k_ ≠ (.slice (some ad256) t253.length co30 : Value).ownBlock)) (by (with_reducible repeat (first | apply Kd.V_alloc | apply Kd.V_drewN | apply Kd.V_drew)); exact Kd.V_mono HL274_0.out (fun _ hk => ⟨⟨hk.2, ⟨hk.1.1, hk.1.2.1⟩⟩, hk.1.2.2⟩)) hg hat); have n6_ := Aside0.mk (hb); have n7_ := Aside0.mk (ho); clear HO_13; clear HO_14; clear HO_15; clear HL270_0; clear HL272_0; clear HL274_0; clear HB; clear HO_16; have HO_13 := n0_; have HO_14 := n1_; have HO_15 := n2_; have HL270_0 := n3_; have HL272_0 := n4_; have HL274_0 := n5_; have HB := n6_; have HO277 := n7_; clear n0_ n1_ n2_ n3_ n4_ n5_ n6_ n7_; clear ho hb hg hat)); try go_wp2_with (first | ((with_reducible refine gate_builtin (b := .append) (xs := #[.tmp 102, .tmp 112]) rfl ?_); at_builtin; refine Kd.R_append_rows (Kd.int .i64) (w0 := w) w.heap.size rfl (.tmp 102) (.tmp 112) 25 2 (.int .i64 0) 8 rfl Try.underlying25 info2 rfl (by decide) (by omega) u16 x16_2 (rd_L3 t247 (rd (rd_L3 t250 x17_1) x18_2)) _ _ _ (fun _ => True) (fun _ => False) rfl rfl ?aO ?aR (fun _ _ h => h) (fun _ h => h.elim) ?aF ?aB ?aS ?aL ?_; (case aR => repeat (first | exact (by repeat (first | (with_reducible exact HR274_0.out) | (with_reducible refine Kd.C_alloc ?_ _) | (with_reducible refine Kd.C_drewN ?_ _) | (with_reducible refine Kd.C_drew ?_) | exact HR274_0.out)) | (with_reducible refine Kd.C_alloc ?_ _) | (with_reducible refine Kd.C_drewN ?_ _) | (with_reducible refine Kd.C_drew ?_))); (case aB => exact (by repeat (first | exact HB.out | apply below_alloc | apply pw_below_drewN | apply below_drew1))); (case aF => exact (fun _ _ => trivial)); (case aO => exact (by (with_reducible repeat (first | apply Kd.R_alloc | apply Kd.R_drewN | apply Kd.R_drew)); exact HO_16.out)); (case aS => exact (below_size (by repeat (first | exact HB.out | apply below_alloc | apply pw_below_drewN | apply below_drew1)))); (case aL => have := LMc57.out; omega); intro v276 w58 ho hb hg hat; rw [← Ny275.out] at ho; have n0_ := Aside0.mk (Kd.N_afterv (ok := (fun k_ => some k_ ≠ (.slice (some ad264) t250.length co28 : Value).ownBlock ∧ some k_ ≠ (.slice (some ad256) t253.length co30 : Value).ownBlock)) (by (with_reducible repeat (first | apply Kd.N_alloc | apply Kd.N_drewN | apply Kd.N_drew)); exact Kd.N_mono HO_13.out (fun _ hk => ⟨⟨hk.1, hk.2.1⟩, hk.2.2⟩)) hg hat); have n1_ := Aside0.mk (Kd.N_afterv (ok := (fun k_ => some k_ ≠ (.slice (some ad267) t247.length co26 : Value).ownBlock ∧ some k_ ≠ (.slice (some ad256) t253.length co30 : Value).ownBlock)) (by (with_reducible repeat (first | apply Kd.N_alloc | apply Kd.N_drewN | apply Kd.N_drew)); exact Kd.N_mono HO_14.out (fun _ hk => ⟨⟨hk.1, hk.2.1⟩, hk.2.2⟩)) hg hat); have n2_ := Aside0.mk (Kd.N_afterv (ok := (fun k_ => some k_ ≠ (.slice (some ad267) t247.length co26 : Value).ownBlock ∧ some k_ ≠ (.slice (some ad264) t250.length co28 : Value).ownBlock)) (by (with_reducible repeat (first | apply Kd.N_alloc | apply Kd.N_drewN | apply Kd.N_drew)); exact Kd.N_mono HO_15.out (fun _ hk => ⟨⟨hk.1, hk.2.1⟩, hk.2.2⟩)) hg hat); have n3_ := Aside0.mk (Kd.V_afterv (ok := (fun k_ => some k_ ≠ (.slice (some ad267) t247.length co26 : Value).ownBlock ∧ some k_ ≠ (.slice (some ad264) t250.length co28 : Value).ownBlock ∧ some k_ ≠ (.slice (some ad256) t253.length co30 : Value).ownBlock)) (by (with_reducible repeat (first | apply Kd.V_alloc | apply Kd.V_drewN | apply Kd.V_drew)); exact Kd.V_mono HL270_0.out (fun _ hk => ⟨⟨hk.1.1, ⟨hk.1.2.1, hk.2⟩⟩, hk.1.2.2⟩)) hg hat); have n4_ := Aside0.mk (Kd.V_afterv (ok := (fun k_ => some k_ ≠ (.slice (some ad267) t247.length co26 : Value).ownBlock ∧ some k_ ≠ (.slice (some ad264) t250.length co28 : Value).ownBlock ∧ some k_ ≠ (.slice (some ad256) t253.length co30 : Value).ownBlock)) (by (with_reducible repeat (first | apply Kd.V_alloc | apply Kd.V_drewN | apply Kd.V_drew)); exact Kd.V_mono HL272_0.out (fun _ hk => ⟨⟨hk.1.1, ⟨hk.2, hk.1.2.1⟩⟩, hk.1.2.2⟩)) hg hat); have n5_ := Aside0.mk (Kd.V_afterv (ok := (fun k_ => some k_ ≠ (.slice (some ad267) t247.length co26 : Value).ownBlock ∧ some k_ ≠ (.slice (some ad264) t250.length co28 : Value).ownBlock ∧ some k_ ≠ (.slice (some ad256) t253.length co30 : Value).ownBlock)) (by (with_reducible repeat (first | apply Kd.V_alloc | apply Kd.V_drewN | apply Kd.V_drew)); exact Kd.V_mono HL274_0.out (fun _ hk => ⟨⟨hk.2, ⟨hk.1.1, hk.1.2.1⟩⟩, hk.1.2.2⟩)) hg hat); have n6_ := Aside0.mk (hb); have n7_ := Aside0.mk (ho); clear HO_13; clear HO_14; clear HO_15; clear HL270_0; clear HL272_0; clear HL274_0; clear HB; clear HO_16; have HO_13 := n0_; have HO_14 := n1_; have HO_15 := n2_; have HL270_0 := n3_; have HL272_0 := n4_; have HL274_0 := n5_; have HB := n6_; have HO277 := n7_; clear n0_ n1_ n2_ n3_ n4_ n5_ n6_ n7_; clear ho hb hg hat)))
                                  go_roundg kj41
                                  case measure => have := HK1.out; have := HK2.out; have := HJ41.out; omega
                                  case rel => exact ⟨(x19_41), (x4_2), (y275), (ji45), (by first | rfl | (simp; done) | (simp [*]; done)), (by first | rfl | (simp; done) | (simp [*]; done)), (by first | rfl | (simp; done) | (simp only [← hji45] <;> (first | rfl | simp)) | (simp [*]; done)), H', ⟨by have := HK1.out; have := HK2.out; have := HJ41.out; omega⟩, ⟨by (with_reducible repeat (first | apply Kd.N_alloc | apply Kd.N_drewN | apply Kd.N_drew)); exact Kd.N_mono HO_13.out (fun _ hk => ⟨hk.1.1, ⟨hk.1.2, hk.2⟩⟩)⟩, ⟨by (with_reducible repeat (first | apply Kd.N_alloc | apply Kd.N_drewN | apply Kd.N_drew)); exact Kd.N_mono HO_14.out (fun _ hk => ⟨hk.1.1, ⟨hk.1.2, hk.2⟩⟩)⟩, ⟨by (with_reducible repeat (first | apply Kd.N_alloc | apply Kd.N_drewN | apply Kd.N_drew)); exact Kd.N_mono HO_15.out (fun _ hk => ⟨hk.1.1, ⟨hk.1.2, hk.2⟩⟩)⟩, ⟨by (with_reducible repeat (first | apply Kd.R_alloc | apply Kd.R_drewN | apply Kd.R_drew)); exact HO277.out⟩, ⟨by repeat (first | exact HB.out | apply below_alloc | apply pw_below_drewN | apply below_drew1)⟩⟩
                                 ·rw [if_neg c57] at H
                                  exact absurd H (by simp)
                                ·rw [if_neg c56] at H
                                 exact absurd H (by simp)
                               ·rw [if_neg c55] at H
                                exact absurd H (by simp)
                              ·rw [if_neg c54] at H
                               exact absurd H (by simp)
                             ·rw [if_neg c53] at H
                              exact absurd H (by simp)
                            ·rw [if_neg c52] at H
                             exact absurd H (by simp)
                           ·rw [if_neg c51] at H
                            exact absurd H (by simp)
                          ·rw [if_neg c50] at H
                           have c50b0 : decide (x4_2 < (rd (rd_L3 t253 (ji45)) x19_41)) = false := decide_eq_false c50
                           clear c50
                           have H' := Aside0.mk H
                           clear H
                           have p270 : 0 ≤ ((ji45) : Int) := of_decide_eq_true (by assumption)
                           have q270 : (ji45) < (t253.length : Int) := of_decide_eq_true (by assumption)
                           obtain ⟨ad270, A270_0, c270_0, e270, hx270_0, hl270_0, hi270_0⟩ := at_L3 (Kd.N_reads' HO_15.out).2.2 (ji45) p270 q270
                           obtain rfl : ad256 = ad270 := (by injection e270)
                           obtain ⟨ce270, hce270, hMe270, hcc270⟩ := Kd.N_get HO_15.out [] (ji45) p270 (by first | exact q270 | exact of_decide_eq_true (by assumption) | (have e_ := (Kd.N_reads' HO_15.out).1; omega))
                           obtain ⟨ua270_0, uc270_0, rfl, ul270_0, ge270_0⟩ := Kd.FK_slice_open hMe270
                           have hv270_0 := hcc270 0 _ rfl
                           rw [Nat.add_zero, show ((Kd.slice 2 (Kd.int .i64))).sz = 1 from rfl, Nat.mul_one] at hv270_0
                           replace hv270_0 := Option.some.inj (hv270_0.symm.trans hx270_0)
                           injection hv270_0 with hva_ hvn_ hvc_
                           rw [hva_] at ge270_0
                           rw [hvc_] at ul270_0
                           have HL270_0 := Aside0.mk (show Kd.V (Kd.int .i64) 2 _ w.heap.size _ _ (rd_L3 t253 (ji45)) from Kd.V_mk ul270_0 ge270_0)
                           clear hva_ hvn_ hvc_ ge270_0 ul270_0
                           clear hcc270 hce270
                           have HR270_0 := Aside0.mk hi270_0
                           have HC270_0 := Aside0.mk hl270_0
                           clear hi270_0 hl270_0
                           replace p270 := eq_true p270
                           replace q270 := eq_true q270
                           have p271 : 0 ≤ (x19_41 : Int) := of_decide_eq_true (by assumption)
                           have q271 : x19_41 < ((rd_L3 t253 (ji45)).length : Int) := of_decide_eq_true (by assumption)
                           obtain ⟨ad271, e271, hx271_0⟩ := Kd.at_int (by repeat (first | (with_reducible exact HR270_0.out) | (with_reducible refine Kd.C_alloc ?_ _) | (with_reducible refine Kd.C_drewN ?_ _) | (with_reducible refine Kd.C_drew ?_) | exact HR270_0.out)) x19_41 p271 q271
                           cases e271
                           replace p271 := eq_true p271
                           replace q271 := eq_true q271
                           have p278 : 0 ≤ ((ji45) : Int) := of_decide_eq_true (by assumption)
                           have q278 : (ji45) < (t253.length : Int) := of_decide_eq_true (by assumption)
                           obtain ⟨ad278, A278_0, c278_0, e278, hx278_0, hl278_0, hi278_0⟩ := at_L3 (Kd.N_reads' HO_15.out).2.2 (ji45) p278 q278
                           obtain rfl : ad256 = ad278 := (by injection e278)
                           obtain ⟨ce278, hce278, hMe278, hcc278⟩ := Kd.N_get HO_15.out [] (ji45) p278 (by first | exact q278 | exact of_decide_eq_true (by assumption) | (have e_ := (Kd.N_reads' HO_15.out).1; omega))
                           obtain ⟨ua278_0, uc278_0, rfl, ul278_0, ge278_0⟩ := Kd.FK_slice_open hMe278
                           have hv278_0 := hcc278 0 _ rfl
                           rw [Nat.add_zero, show ((Kd.slice 2 (Kd.int .i64))).sz = 1 from rfl, Nat.mul_one] at hv278_0
                           replace hv278_0 := Option.some.inj (hv278_0.symm.trans hx278_0)
                           injection hv278_0 with hva_ hvn_ hvc_
                           rw [hva_] at ge278_0
                           rw [hvc_] at ul278_0
                           have HL278_0 := Aside0.mk (show Kd.V (Kd.int .i64) 2 _ w.heap.size _ _ (rd_L3 t253 (ji45)) from Kd.V_mk ul278_0 ge278_0)
                           clear hva_ hvn_ hvc_ ge278_0 ul278_0
                           clear hcc278 hce278
                           have HR278_0 := Aside0.mk hi278_0
                           have HC278_0 := Aside0.mk hl278_0
                           clear hi278_0 hl278_0
                           replace p278 := eq_true p278
                           replace q278 := eq_true q278
                           have ea_ := Option.some.inj (hx270_0.symm.trans hx278_0)
                           injection ea_ with ea_ en_ ec_
                           subst ea_
                           subst ec_
                           clear en_
                           have p279 : 0 ≤ (x19_41 : Int) := of_decide_eq_true (by assumption)
                           have q279 : x19_41 < ((rd_L3 t253 (ji45)).length : Int) := of_decide_eq_true (by assumption)
                           obtain ⟨ad279, e279, hx279_0⟩ := Kd.at_int (by repeat (first | (with_reducible exact HR278_0.out) | (with_reducible refine Kd.C_alloc ?_ _) | (with_reducible refine Kd.C_drewN ?_ _) | (with_reducible refine Kd.C_drew ?_) | exact HR278_0.out)) x19_41 p279 q279
                           cases e279
                           replace p279 := eq_true p279
                           replace q279 := eq_true q279
                           go_wp2
                           repeat (go_quiet (fail); try go_wp2)
                           go_roundg kj41
                           case measure => have := HK1.out; have := HK2.out; have := HJ41.out; omega
                           case rel => exact ⟨(x3_2), (wrap64 (x4_2 - (rd (rd_L3 t253 (ji45)) x19_41))), (x16_2), (wrap64 (x18_2 + 1)), (by first | rfl | (simp; done) | (simp [*]; done)), (by first | rfl | (simp; done) | (simp only [← hji45] <;> (first | rfl | simp)) | (simp [*]; done)), (by first | rfl | (simp; done) | (simp [*]; done)), H', ⟨by have := HK1.out; have := HK2.out; have := HJ41.out; omega⟩, ⟨by (with_reducible repeat (first | apply Kd.N_alloc | apply Kd.N_drewN | apply Kd.N_drew)); exact HO_13.out⟩, ⟨by (with_reducible repeat (first | apply Kd.N_alloc | apply Kd.N_drewN | apply Kd.N_drew)); exact HO_14.out⟩, ⟨by (with_reducible repeat (first | apply Kd.N_alloc | apply Kd.N_drewN | apply Kd.N_drew)); exact HO_15.out⟩, ⟨by (with_reducible repeat (first | apply Kd.R_alloc | apply Kd.R_drewN | apply Kd.R_drew)); exact HO_16.out⟩, ⟨by repeat (first | exact HB.out | apply below_alloc | apply pw_below_drewN | apply below_drew1)⟩⟩
                         ·rw [if_neg c49] at H
                          exact absurd H (by simp)
                        ·rw [if_neg c48] at H
                         exact absurd H (by simp)
                       ·rw [if_neg c47] at H
                        exact absurd H (by simp)
                      ·rw [if_neg c46] at H
                       exact absurd H (by simp)
                  ·rw [if_neg c40] at H
                   exact absurd H (by simp)
                 ·rw [if_neg c39] at H
                  exact absurd H (by simp)
                ·rw [if_neg c38] at H
                 exact absurd H (by simp)
               ·rw [if_neg c37] at H
                exact absurd H (by simp)
              ·rw [if_neg c36] at H
               have c36b0 : decide (x18_2 < ((rd_L3 t250 x17_1).length : Int)) = false := decide_eq_false c36
               clear c36
               have H' := Aside0.mk H
               clear H
               have p264 : 0 ≤ (x17_1 : Int) := of_decide_eq_true (by assumption)
               have q264 : x17_1 < (t250.length : Int) := of_decide_eq_true (by assumption)
               obtain ⟨ad264, A264_0, c264_0, e264, hx264_0, hl264_0, hi264_0⟩ := at_L3 (Kd.N_reads' HO_14.out).2.2 x17_1 p264 q264
               cases e264
               obtain ⟨ce264, hce264, hMe264, hcc264⟩ := Kd.N_get HO_14.out [] x17_1 p264 (by first | exact q264 | exact of_decide_eq_true (by assumption) | (have e_ := (Kd.N_reads' HO_14.out).1; omega))
               obtain ⟨ua264_0, uc264_0, rfl, ul264_0, ge264_0⟩ := Kd.FK_slice_open hMe264
               have hv264_0 := hcc264 0 _ rfl
               rw [Nat.add_zero, show ((Kd.slice 2 (Kd.int .i64))).sz = 1 from rfl, Nat.mul_one] at hv264_0
               replace hv264_0 := Option.some.inj (hv264_0.symm.trans hx264_0)
               injection hv264_0 with hva_ hvn_ hvc_
               rw [hva_] at ge264_0
               rw [hvc_] at ul264_0
               have HL264_0 := Aside0.mk (show Kd.V (Kd.int .i64) 2 _ w.heap.size _ _ (rd_L3 t250 x17_1) from Kd.V_mk ul264_0 ge264_0)
               clear hva_ hvn_ hvc_ ge264_0 ul264_0
               clear hcc264 hce264
               have HR264_0 := Aside0.mk hi264_0
               have HC264_0 := Aside0.mk hl264_0
               clear hi264_0 hl264_0
               replace p264 := eq_true p264
               replace q264 := eq_true q264
               go_wp2
               repeat (go_quiet (fail); try go_wp2)
               go_roundg k2
               case measure => have := HK1.out; have := HK2.out; omega
               case rel => exact ⟨(x3_2), (x4_2), (x16_2), (wrap64 (x17_1 + 1)), (by first | rfl | (simp; done) | (simp [*]; done)), (by first | rfl | (simp; done) | (simp [*]; done)), (by first | rfl | (simp; done) | (simp [*]; done)), H', ⟨by have := HK1.out; have := HK2.out; omega⟩, ⟨by (with_reducible repeat (first | apply Kd.N_alloc | apply Kd.N_drewN | apply Kd.N_drew)); exact HO_13.out⟩, ⟨by (with_reducible repeat (first | apply Kd.N_alloc | apply Kd.N_drewN | apply Kd.N_drew)); exact HO_14.out⟩, ⟨by (with_reducible repeat (first | apply Kd.N_alloc | apply Kd.N_drewN | apply Kd.N_drew)); exact HO_15.out⟩, ⟨by (with_reducible repeat (first | apply Kd.R_alloc | apply Kd.R_drewN | apply Kd.R_drew)); exact HO_16.out⟩, ⟨by repeat (first | exact HB.out | apply below_alloc | apply pw_below_drewN | apply below_drew1)⟩⟩
             ·rw [if_neg c35] at H
              exact absurd H (by simp)
            ·rw [if_neg c34] at H
             exact absurd H (by simp)
         ·rw [if_neg c33] at H
          have c33b0 : decide (x17_1 < (t247.length : Int)) = false := decide_eq_false c33
          clear c33
          simp only [Option.some.injEq, Prod.mk.injEq] at H
          obtain ⟨rfl, rfl⟩ := H
          go_wp2
          repeat (go_quiet (fail); try go_wp2)
          go_ret2
          exact ⟨_, by first | rfl | (simp [errW_none, errW_some] <;> rfl) | (simp [*, errW_none, errW_some] <;> rfl), by (with_reducible repeat (first | apply Kd.R_alloc | apply Kd.R_drewN | apply Kd.R_drew)); exact HO_16.out, by repeat (first | exact HB.out | apply below_alloc | apply pw_below_drewN | apply below_drew1)⟩
      ·replace c23 := Bool.eq_false_iff.mpr c23
       subst c23
       have H1 : (some (([] : List Int), 3)) = some (r1, r2) := by rw [if_neg (show ¬ (false = true) by decide)] at H; exact H
       clear H
       have H := H1
       clear H1
       simp only [Option.some.injEq, Prod.mk.injEq] at H
       obtain ⟨rfl, rfl⟩ := H
       go_enter Try.func18, Try.ntmps18
       go_wp2_with (first | (go_at_call 35; (with_reducible refine (spec_l20Vary.calls k _ _ l0 _ _ l1 a2 a3 t246 _ ?side1 ?side2 ?side3 ?side4 A6.out).mono ?_); (case side1 => repeat (first | exact HR0.out | (with_reducible refine Kd.C_alloc ?_ _) | (with_reducible refine Kd.C_drewN ?_ _) | (with_reducible refine Kd.C_drew ?_))); (case side2 => exact HC0.out); (case side3 => repeat (first | exact HR1.out | (with_reducible refine Kd.C_alloc ?_ _) | (with_reducible refine Kd.C_drewN ?_ _) | (with_reducible refine Kd.C_drew ?_))); (case side4 => exact HC1.out); rintro e w59 ⟨rfl, hb⟩; have n0_ := Aside0.mk (below_step (by repeat (first | exact HB.out | apply below_alloc | apply pw_below_drewN | apply below_drew1)) hb); clear HB; have HB := n0_; clear n0_; (try clear hb); (try clear hb2); (try clear hk); (try clear hi)) | (go_at_call 36; (with_reducible refine (spec_l20Blocks.calls k _ _ l1 a2 t247 _ ?side1 ?side2 A8.out).mono ?_); (case side1 => repeat (first | exact (Kd.C_below HR1.out HB.out) | (with_reducible refine Kd.C_alloc ?_ _) | (with_reducible refine Kd.C_drewN ?_ _) | (with_reducible refine Kd.C_drew ?_))); (case side2 => exact HC1.out); rintro e w60 ⟨v248, rfl, ho0, hb⟩; have n0_ := Aside0.mk (Kd.N_lower (Kd.N_mono (ok' := fun k_ => True) (Kd.S_N (Kd.S_bound ho0)) (fun k_ hk_ => trivial)) (below_size (by repeat (first | exact HB.out | apply below_alloc | apply pw_below_drewN | apply below_drew1)))); have n1_ := Aside0.mk (below_step (by repeat (first | exact HB.out | apply below_alloc | apply pw_below_drewN | apply below_drew1)) hb); clear HB; have HO249 := n0_; have HB := n1_; clear n0_ n1_; (try clear hb); (try clear hb2); (try clear hk); (try clear hi); (try clear ho0); obtain ⟨Ao61, co61, eo61⟩ := Kd.N_slice HO249.out; subst eo61) | (go_at_call 38; (with_reducible refine (spec_l20Choices.calls k _ _ l0 _ _ t247 t250 _ ?side1 ?side2 ?side3 ?side4 A9.out).mono ?_); (case side1 => repeat (first | exact (Kd.C_below HR0.out HB.out) | (with_reducible refine Kd.C_alloc ?_ _) | (with_reducible refine Kd.C_drewN ?_ _) | (with_reducible refine Kd.C_drew ?_))); (case side2 => exact HC0.out); (case side3 => repeat (first | exact (Kd.N_reads' HO249.out).2.2 | (with_reducible refine Kd.C_alloc ?_ _) | (with_reducible refine Kd.C_drewN ?_ _) | (with_reducible refine Kd.C_drew ?_))); (case side4 => exact (Kd.N_reads' HO249.out).2.1); rintro e w62 ⟨v251, rfl, ho0, hb⟩; have n0_ := Aside0.mk (Kd.N_elder' (by (with_reducible repeat (first | apply Kd.N_alloc | apply Kd.N_drewN | apply Kd.N_drew)); exact HO249.out) (by first | exact Kd.N_base ho0 | exact Kd.S_base ho0) hb); have n1_ := Aside0.mk (Kd.N_lower (Kd.N_mono (ok' := fun k_ => some k_ ≠ (.slice Ao61 t247.length co61 : Value).ownBlock) (Kd.S_N (Kd.S_bound ho0)) (fun k_ hk_ => (Kd.fresh' (Kd.N_lt (by (with_reducible repeat (first | apply Kd.N_alloc | apply Kd.N_drewN | apply Kd.N_drew)); exact HO249.out)) k_ hk_.2.1))) (below_size (by repeat (first | exact HB.out | apply below_alloc | apply pw_below_drewN | apply below_drew1)))); have n2_ := Aside0.mk (below_step (by repeat (first | exact HB.out | apply below_alloc | apply pw_below_drewN | apply below_drew1)) hb); clear HO249; clear HB; have HO249 := n0_; have HO252 := n1_; have HB := n2_; clear n0_ n1_ n2_; (try clear hb); (try clear hb2); (try clear hk); (try clear hi); (try clear ho0); obtain ⟨Ao63, co63, eo63⟩ := Kd.N_slice HO252.out; subst eo63) | (go_at_call 37; (with_reducible refine (spec_l20Ways.calls k _ _ t247 _ _ t250 a3 t253 _ ?side1 ?side2 ?side3 ?side4 A10.out).mono ?_); (case side1 => repeat (first | exact (Kd.N_reads' HO249.out).2.2 | (with_reducible refine Kd.C_alloc ?_ _) | (with_reducible refine Kd.C_drewN ?_ _) | (with_reducible refine Kd.C_drew ?_))); (case side2 => exact (Kd.N_reads' HO249.out).2.1); (case side3 => repeat (first | exact (Kd.N_reads' HO252.out).2.2 | (with_reducible refine Kd.C_alloc ?_ _) | (with_reducible refine Kd.C_drewN ?_ _) | (with_reducible refine Kd.C_drew ?_))); (case side4 => exact (Kd.N_reads' HO252.out).2.1); rintro e w64 ⟨v254, rfl, ho0, hb⟩; have n0_ := Aside0.mk (Kd.N_elder' (by (with_reducible repeat (first | apply Kd.N_alloc | apply Kd.N_drewN | apply Kd.N_drew)); exact HO249.out) (by first | exact Kd.N_base ho0 | exact Kd.S_base ho0) hb); have n1_ := Aside0.mk (Kd.N_elder' (by (with_reducible repeat (first | apply Kd.N_alloc | apply Kd.N_drewN | apply Kd.N_drew)); exact HO252.out) (by first | exact Kd.N_base ho0 | exact Kd.S_base ho0) hb); have n2_ := Aside0.mk (Kd.N_lower (Kd.N_mono (ok' := fun k_ => some k_ ≠ (.slice Ao61 t247.length co61 : Value).ownBlock ∧ some k_ ≠ (.slice Ao63 t250.length co63 : Value).ownBlock) ho0 (fun k_ hk_ => ⟨(Kd.fresh' (Kd.N_lt (by (with_reducible repeat (first | apply Kd.N_alloc | apply Kd.N_drewN | apply Kd.N_drew)); exact HO249.out)) k_ hk_), (Kd.fresh' (Kd.N_lt (by (with_reducible repeat (first | apply Kd.N_alloc | apply Kd.N_drewN | apply Kd.N_drew)); exact HO252.out)) k_ hk_)⟩)) (below_size (by repeat (first | exact HB.out | apply below_alloc | apply pw_below_drewN | apply below_drew1)))); have n3_ := Aside0.mk (below_step (by repeat (first | exact HB.out | apply below_alloc | apply pw_below_drewN | apply below_drew1)) hb); clear HO249; clear HO252; clear HB; have HO249 := n0_; have HO252 := n1_; have HO255 := n2_; have HB := n3_; clear n0_ n1_ n2_ n3_; (try clear hb); (try clear hb2); (try clear hk); (try clear hi); (try clear ho0); obtain ⟨Ao65, co65, eo65⟩ := Kd.N_slice HO255.out; subst eo65; have p256 : 0 ≤ (0 : Int) := (by omega); have q256 : 0 < (t253.length : Int) := of_decide_eq_true (by assumption); obtain ⟨ad256, A256_0, c256_0, e256, hx256_0, hl256_0, hi256_0⟩ := at_L3 (Kd.N_reads' HO255.out).2.2 0 p256 q256; cases e256; obtain ⟨ce256, hce256, hMe256, hcc256⟩ := Kd.N_get HO255.out [] 0 p256 (by first | exact q256 | exact of_decide_eq_true (by assumption) | (have e_ := (Kd.N_reads' HO255.out).1; omega)); obtain ⟨ua256_0, uc256_0, rfl, ul256_0, ge256_0⟩ := Kd.FK_slice_open hMe256; have hv256_0 := hcc256 0 _ rfl; rw [Nat.add_zero, show ((Kd.slice 2 (Kd.int .i64))).sz = 1 from rfl, Nat.mul_one] at hv256_0; replace hv256_0 := Option.some.inj (hv256_0.symm.trans hx256_0); injection hv256_0 with hva_ hvn_ hvc_; rw [hva_] at ge256_0; rw [hvc_] at ul256_0; have HL256_0 := Aside0.mk (show Kd.V (Kd.int .i64) 2 _ w.heap.size _ _ (rd_L3 t253 0) from Kd.V_mk ul256_0 ge256_0); clear hva_ hvn_ hvc_ ge256_0 ul256_0; clear hcc256 hce256; have qi256 : (0 < t253.length) = True := eq_true (by omega); (try rw [show ((0 : Int)).toNat = 0 from rfl] at hx256_0); (try rw [Addr.add_zero'] at hx256_0); have HR256_0 := Aside0.mk hi256_0; have HC256_0 := Aside0.mk hl256_0; clear hi256_0 hl256_0; replace p256 := eq_true p256; replace q256 := eq_true q256; have p257 : 0 ≤ (a3 : Int) := of_decide_eq_true (by assumption); have q257 : a3 < ((rd_L3 t253 0).length : Int) := of_decide_eq_true (by assumption); obtain ⟨ad257, e257, hx257_0⟩ := Kd.at_int (by repeat (first | (with_reducible exact HR256_0.out) | (with_reducible refine Kd.C_alloc ?_ _) | (with_reducible refine Kd.C_drewN ?_ _) | (with_reducible refine Kd.C_drew ?_) | exact HR256_0.out)) a3 p257 q257; cases e257; replace p257 := eq_true p257; replace q257 := eq_true q257; have p258 : 0 ≤ (0 : Int) := (by omega); have q258 : 0 < (t253.length : Int) := of_decide_eq_true (by assumption); obtain ⟨ad258, A258_0, c258_0, e258, hx258_0, hl258_0, hi258_0⟩ := at_L3 (Kd.N_reads' HO255.out).2.2 0 p258 q258; obtain rfl : ad256 = ad258 := (by injection e258); obtain ⟨ce258, hce258, hMe258, hcc258⟩ := Kd.N_get HO255.out [] 0 p258 (by first | exact q258 | exact of_decide_eq_true (by assumption) | (have e_ := (Kd.N_reads' HO255.out).1; omega)); obtain ⟨ua258_0, uc258_0, rfl, ul258_0, ge258_0⟩ := Kd.FK_slice_open hMe258; have hv258_0 := hcc258 0 _ rfl; rw [Nat.add_zero, show ((Kd.slice 2 (Kd.int .i64))).sz = 1 from rfl, Nat.mul_one] at hv258_0; replace hv258_0 := Option.some.inj (hv258_0.symm.trans hx258_0); injection hv258_0 with hva_ hvn_ hvc_; rw [hva_] at ge258_0; rw [hvc_] at ul258_0; have HL258_0 := Aside0.mk (show Kd.V (Kd.int .i64) 2 _ w.heap.size _ _ (rd_L3 t253 0) from Kd.V_mk ul258_0 ge258_0); clear hva_ hvn_ hvc_ ge258_0 ul258_0; clear hcc258 hce258; have qi258 : (0 < t253.length) = True := eq_true (by omega); (try rw [show ((0 : Int)).toNat = 0 from rfl] at hx258_0); (try rw [Addr.add_zero'] at hx258_0); have HR258_0 := Aside0.mk hi258_0; have HC258_0 := Aside0.mk hl258_0; clear hi258_0 hl258_0; replace p258 := eq_true p258; replace q258 := eq_true q258; have ea_ := Option.some.inj (hx256_0.symm.trans hx258_0); injection ea_ with ea_ en_ ec_; subst ea_; subst ec_; clear en_; have p259 : 0 ≤ (a3 : Int) := of_decide_eq_true (by assumption); have q259 : a3 < ((rd_L3 t253 0).length : Int) := of_decide_eq_true (by assumption); obtain ⟨ad259, e259, hx259_0⟩ := Kd.at_int (by repeat (first | (with_reducible exact HR258_0.out) | (with_reducible refine Kd.C_alloc ?_ _) | (with_reducible refine Kd.C_drewN ?_ _) | (with_reducible refine Kd.C_drew ?_) | exact HR258_0.out)) a3 p259 q259; cases e259; replace p259 := eq_true p259; replace q259 := eq_true q259) | (go_at_call 41; (with_reducible refine (spec_l00In.calls a4 0 (wrap64 ((rd (rd_L3 t253 0) a3) - 1)) false _ A22.out).mono ?_); rintro e w' ⟨rfl, ⟨nd, rfl⟩⟩; (try first | exact ⟨rfl, _, World.drewN_drewN _ _ _⟩ | exact ⟨rfl, _, Eq.trans (World.drewN_drewN _ _ _) (congrArg (World.drewN _) (Nat.add_assoc _ _ _))⟩)))
       repeat (go_quiet (first | (go_at_call 35; (with_reducible refine (spec_l20Vary.calls k _ _ l0 _ _ l1 a2 a3 t246 _ ?side1 ?side2 ?side3 ?side4 A6.out).mono ?_); (case side1 => repeat (first | exact HR0.out | (with_reducible refine Kd.C_alloc ?_ _) | (with_reducible refine Kd.C_drewN ?_ _) | (with_reducible refine Kd.C_drew ?_))); (case side2 => exact HC0.out); (case side3 => repeat (first | exact HR1.out | (with_reducible refine Kd.C_alloc ?_ _) | (with_reducible refine Kd.C_drewN ?_ _) | (with_reducible refine Kd.C_drew ?_))); (case side4 => exact HC1.out); rintro e w59 ⟨rfl, hb⟩; have n0_ := Aside0.mk (below_step (by repeat (first | exact HB.out | apply below_alloc | apply pw_below_drewN | apply below_drew1)) hb); clear HB; have HB := n0_; clear n0_; (try clear hb); (try clear hb2); (try clear hk); (try clear hi)) | (go_at_call 36; (with_reducible refine (spec_l20Blocks.calls k _ _ l1 a2 t247 _ ?side1 ?side2 A8.out).mono ?_); (case side1 => repeat (first | exact (Kd.C_below HR1.out HB.out) | (with_reducible refine Kd.C_alloc ?_ _) | (with_reducible refine Kd.C_drewN ?_ _) | (with_reducible refine Kd.C_drew ?_))); (case side2 => exact HC1.out); rintro e w60 ⟨v248, rfl, ho0, hb⟩; have n0_ := Aside0.mk (Kd.N_lower (Kd.N_mono (ok' := fun k_ => True) (Kd.S_N (Kd.S_bound ho0)) (fun k_ hk_ => trivial)) (below_size (by repeat (first | exact HB.out | apply below_alloc | apply pw_below_drewN | apply below_drew1)))); have n1_ := Aside0.mk (below_step (by repeat (first | exact HB.out | apply below_alloc | apply pw_below_drewN | apply below_drew1)) hb); clear HB; have HO249 := n0_; have HB := n1_; clear n0_ n1_; (try clear hb); (try clear hb2); (try clear hk); (try clear hi); (try clear ho0); obtain ⟨Ao61, co61, eo61⟩ := Kd.N_slice HO249.out; subst eo61) | (go_at_call 38; (with_reducible refine (spec_l20Choices.calls k _ _ l0 _ _ t247 t250 _ ?side1 ?side2 ?side3 ?side4 A9.out).mono ?_); (case side1 => repeat (first | exact (Kd.C_below HR0.out HB.out) | (with_reducible refine Kd.C_alloc ?_ _) | (with_reducible refine Kd.C_drewN ?_ _) | (with_reducible refine Kd.C_drew ?_))); (case side2 => exact HC0.out); (case side3 => repeat (first | exact (Kd.N_reads' HO249.out).2.2 | (with_reducible refine Kd.C_alloc ?_ _) | (with_reducible refine Kd.C_drewN ?_ _) | (with_reducible refine Kd.C_drew ?_))); (case side4 => exact (Kd.N_reads' HO249.out).2.1); rintro e w62 ⟨v251, rfl, ho0, hb⟩; have n0_ := Aside0.mk (Kd.N_elder' (by (with_reducible repeat (first | apply Kd.N_alloc | apply Kd.N_drewN | apply Kd.N_drew)); exact HO249.out) (by first | exact Kd.N_base ho0 | exact Kd.S_base ho0) hb); have n1_ := Aside0.mk (Kd.N_lower (Kd.N_mono (ok' := fun k_ => some k_ ≠ (.slice Ao61 t247.length co61 : Value).ownBlock) (Kd.S_N (Kd.S_bound ho0)) (fun k_ hk_ => (Kd.fresh' (Kd.N_lt (by (with_reducible repeat (first | apply Kd.N_alloc | apply Kd.N_drewN | apply Kd.N_drew)); exact HO249.out)) k_ hk_.2.1))) (below_size (by repeat (first | exact HB.out | apply below_alloc | apply pw_below_drewN | apply below_drew1)))); have n2_ := Aside0.mk (below_step (by repeat (first | exact HB.out | apply below_alloc | apply pw_below_drewN | apply below_drew1)) hb); clear HO249; clear HB; have HO249 := n0_; have HO252 := n1_; have HB := n2_; clear n0_ n1_ n2_; (try clear hb); (try clear hb2); (try clear hk); (try clear hi); (try clear ho0); obtain ⟨Ao63, co63, eo63⟩ := Kd.N_slice HO252.out; subst eo63) | (go_at_call 37; (with_reducible refine (spec_l20Ways.calls k _ _ t247 _ _ t250 a3 t253 _ ?side1 ?side2 ?side3 ?side4 A10.out).mono ?_); (case side1 => repeat (first | exact (Kd.N_reads' HO249.out).2.2 | (with_reducible refine Kd.C_alloc ?_ _) | (with_reducible refine Kd.C_drewN ?_ _) | (with_reducible refine Kd.C_drew ?_))); (case side2 => exact (Kd.N_reads' HO249.out).2.1); (case side3 => repeat (first | exact (Kd.N_reads' HO252.out).2.2 | (with_reducible refine Kd.C_alloc ?_ _) | (with_reducible refine Kd.C_drewN ?_ _) | (with_reducible refine Kd.C_drew ?_))); (case side4 => exact (Kd.N_reads' HO252.out).2.1); rintro e w64 ⟨v254, rfl, ho0, hb⟩; have n0_ := Aside0.mk (Kd.N_elder' (by (with_reducible repeat (first | apply Kd.N_alloc | apply Kd.N_drewN | apply Kd.N_drew)); exact HO249.out) (by first | exact Kd.N_base ho0 | exact Kd.S_base ho0) hb); have n1_ := Aside0.mk (Kd.N_elder' (by (with_reducible repeat (first | apply Kd.N_alloc | apply Kd.N_drewN | apply Kd.N_drew)); exact HO252.out) (by first | exact Kd.N_base ho0 | exact Kd.S_base ho0) hb); have n2_ := Aside0.mk (Kd.N_lower (Kd.N_mono (ok' := fun k_ => some k_ ≠ (.slice Ao61 t247.length co61 : Value).ownBlock ∧ some k_ ≠ (.slice Ao63 t250.length co63 : Value).ownBlock) ho0 (fun k_ hk_ => ⟨(Kd.fresh' (Kd.N_lt (by (with_reducible repeat (first | apply Kd.N_alloc | apply Kd.N_drewN | apply Kd.N_drew)); exact HO249.out)) k_ hk_), (Kd.fresh' (Kd.N_lt (by (with_reducible repeat (first | apply Kd.N_alloc | apply Kd.N_drewN | apply Kd.N_drew)); exact HO252.out)) k_ hk_)⟩)) (below_size (by repeat (first | exact HB.out | apply below_alloc | apply pw_below_drewN | apply below_drew1)))); have n3_ := Aside0.mk (below_step (by repeat (first | exact HB.out | apply below_alloc | apply pw_below_drewN | apply below_drew1)) hb); clear HO249; clear HO252; clear HB; have HO249 := n0_; have HO252 := n1_; have HO255 := n2_; have HB := n3_; clear n0_ n1_ n2_ n3_; (try clear hb); (try clear hb2); (try clear hk); (try clear hi); (try clear ho0); obtain ⟨Ao65, co65, eo65⟩ := Kd.N_slice HO255.out; subst eo65; have p256 : 0 ≤ (0 : Int) := (by omega); have q256 : 0 < (t253.length : Int) := of_decide_eq_true (by assumption); obtain ⟨ad256, A256_0, c256_0, e256, hx256_0, hl256_0, hi256_0⟩ := at_L3 (Kd.N_reads' HO255.out).2.2 0 p256 q256; cases e256; obtain ⟨ce256, hce256, hMe256, hcc256⟩ := Kd.N_get HO255.out [] 0 p256 (by first | exact q256 | exact of_decide_eq_true (by assumption) | (have e_ := (Kd.N_reads' HO255.out).1; omega)); obtain ⟨ua256_0, uc256_0, rfl, ul256_0, ge256_0⟩ := Kd.FK_slice_open hMe256; have hv256_0 := hcc256 0 _ rfl; rw [Nat.add_zero, show ((Kd.slice 2 (Kd.int .i64))).sz = 1 from rfl, Nat.mul_one] at hv256_0; replace hv256_0 := Option.some.inj (hv256_0.symm.trans hx256_0); injection hv256_0 with hva_ hvn_ hvc_; rw [hva_] at ge256_0; rw [hvc_] at ul256_0; have HL256_0 := Aside0.mk (show Kd.V (Kd.int .i64) 2 _ w.heap.size _ _ (rd_L3 t253 0) from Kd.V_mk ul256_0 ge256_0); clear hva_ hvn_ hvc_ ge256_0 ul256_0; clear hcc256 hce256; have qi256 : (0 < t253.length) = True := eq_true (by omega); (try rw [show ((0 : Int)).toNat = 0 from rfl] at hx256_0); (try rw [Addr.add_zero'] at hx256_0); have HR256_0 := Aside0.mk hi256_0; have HC256_0 := Aside0.mk hl256_0; clear hi256_0 hl256_0; replace p256 := eq_true p256; replace q256 := eq_true q256; have p257 : 0 ≤ (a3 : Int) := of_decide_eq_true (by assumption); have q257 : a3 < ((rd_L3 t253 0).length : Int) := of_decide_eq_true (by assumption); obtain ⟨ad257, e257, hx257_0⟩ := Kd.at_int (by repeat (first | (with_reducible exact HR256_0.out) | (with_reducible refine Kd.C_alloc ?_ _) | (with_reducible refine Kd.C_drewN ?_ _) | (with_reducible refine Kd.C_drew ?_) | exact HR256_0.out)) a3 p257 q257; cases e257; replace p257 := eq_true p257; replace q257 := eq_true q257; have p258 : 0 ≤ (0 : Int) := (by omega); have q258 : 0 < (t253.length : Int) := of_decide_eq_true (by assumption); obtain ⟨ad258, A258_0, c258_0, e258, hx258_0, hl258_0, hi258_0⟩ := at_L3 (Kd.N_reads' HO255.out).2.2 0 p258 q258; obtain rfl : ad256 = ad258 := (by injection e258); obtain ⟨ce258, hce258, hMe258, hcc258⟩ := Kd.N_get HO255.out [] 0 p258 (by first | exact q258 | exact of_decide_eq_true (by assumption) | (have e_ := (Kd.N_reads' HO255.out).1; omega)); obtain ⟨ua258_0, uc258_0, rfl, ul258_0, ge258_0⟩ := Kd.FK_slice_open hMe258; have hv258_0 := hcc258 0 _ rfl; rw [Nat.add_zero, show ((Kd.slice 2 (Kd.int .i64))).sz = 1 from rfl, Nat.mul_one] at hv258_0; replace hv258_0 := Option.some.inj (hv258_0.symm.trans hx258_0); injection hv258_0 with hva_ hvn_ hvc_; rw [hva_] at ge258_0; rw [hvc_] at ul258_0; have HL258_0 := Aside0.mk (show Kd.V (Kd.int .i64) 2 _ w.heap.size _ _ (rd_L3 t253 0) from Kd.V_mk ul258_0 ge258_0); clear hva_ hvn_ hvc_ ge258_0 ul258_0; clear hcc258 hce258; have qi258 : (0 < t253.length) = True := eq_true (by omega); (try rw [show ((0 : Int)).toNat = 0 from rfl] at hx258_0); (try rw [Addr.add_zero'] at hx258_0); have HR258_0 := Aside0.mk hi258_0; have HC258_0 := Aside0.mk hl258_0; clear hi258_0 hl258_0; replace p258 := eq_true p258; replace q258 := eq_true q258; have ea_ := Option.some.inj (hx256_0.symm.trans hx258_0); injection ea_ with ea_ en_ ec_; subst ea_; subst ec_; clear en_; have p259 : 0 ≤ (a3 : Int) := of_decide_eq_true (by assumption); have q259 : a3 < ((rd_L3 t253 0).length : Int) := of_decide_eq_true (by assumption); obtain ⟨ad259, e259, hx259_0⟩ := Kd.at_int (by repeat (first | (with_reducible exact HR258_0.out) | (with_reducible refine Kd.C_alloc ?_ _) | (with_reducible refine Kd.C_drewN ?_ _) | (with_reducible refine Kd.C_drew ?_) | exact HR258_0.out)) a3 p259 q259; cases e259; replace p259 := eq_true p259; replace q259 := eq_true q259) | (go_at_call 41; (with_reducible refine (spec_l00In.calls a4 0 (wrap64 ((rd (rd_L3 t253 0) a3) - 1)) false _ A22.out).mono ?_); rintro e w' ⟨rfl, ⟨nd, rfl⟩⟩; (try first | exact ⟨rfl, _, World.drewN_drewN _ _ _⟩ | exact ⟨rfl, _, Eq.trans (World.drewN_drewN _ _ _) (congrArg (World.drewN _) (Nat.add_assoc _ _ _))⟩))); try go_wp2_with (first | (go_at_call 35; (with_reducible refine (spec_l20Vary.calls k _ _ l0 _ _ l1 a2 a3 t246 _ ?side1 ?side2 ?side3 ?side4 A6.out).mono ?_); (case side1 => repeat (first | exact HR0.out | (with_reducible refine Kd.C_alloc ?_ _) | (with_reducible refine Kd.C_drewN ?_ _) | (with_reducible refine Kd.C_drew ?_))); (case side2 => exact HC0.out); (case side3 => repeat (first | exact HR1.out | (with_reducible refine Kd.C_alloc ?_ _) | (with_reducible refine Kd.C_drewN ?_ _) | (with_reducible refine Kd.C_drew ?_))); (case side4 => exact HC1.out); rintro e w59 ⟨rfl, hb⟩; have n0_ := Aside0.mk (below_step (by repeat (first | exact HB.out | apply below_alloc | apply pw_below_drewN | apply below_drew1)) hb); clear HB; have HB := n0_; clear n0_; (try clear hb); (try clear hb2); (try clear hk); (try clear hi)) | (go_at_call 36; (with_reducible refine (spec_l20Blocks.calls k _ _ l1 a2 t247 _ ?side1 ?side2 A8.out).mono ?_); (case side1 => repeat (first | exact (Kd.C_below HR1.out HB.out) | (with_reducible refine Kd.C_alloc ?_ _) | (with_reducible refine Kd.C_drewN ?_ _) | (with_reducible refine Kd.C_drew ?_))); (case side2 => exact HC1.out); rintro e w60 ⟨v248, rfl, ho0, hb⟩; have n0_ := Aside0.mk (Kd.N_lower (Kd.N_mono (ok' := fun k_ => True) (Kd.S_N (Kd.S_bound ho0)) (fun k_ hk_ => trivial)) (below_size (by repeat (first | exact HB.out | apply below_alloc | apply pw_below_drewN | apply below_drew1)))); have n1_ := Aside0.mk (below_step (by repeat (first | exact HB.out | apply below_alloc | apply pw_below_drewN | apply below_drew1)) hb); clear HB; have HO249 := n0_; have HB := n1_; clear n0_ n1_; (try clear hb); (try clear hb2); (try clear hk); (try clear hi); (try clear ho0); obtain ⟨Ao61, co61, eo61⟩ := Kd.N_slice HO249.out; subst eo61) | (go_at_call 38; (with_reducible refine (spec_l20Choices.calls k _ _ l0 _ _ t247 t250 _ ?side1 ?side2 ?side3 ?side4 A9.out).mono ?_); (case side1 => repeat (first | exact (Kd.C_below HR0.out HB.out) | (with_reducible refine Kd.C_alloc ?_ _) | (with_reducible refine Kd.C_drewN ?_ _) | (with_reducible refine Kd.C_drew ?_))); (case side2 => exact HC0.out); (case side3 => repeat (first | exact (Kd.N_reads' HO249.out).2.2 | (with_reducible refine Kd.C_alloc ?_ _) | (with_reducible refine Kd.C_drewN ?_ _) | (with_reducible refine Kd.C_drew ?_))); (case side4 => exact (Kd.N_reads' HO249.out).2.1); rintro e w62 ⟨v251, rfl, ho0, hb⟩; have n0_ := Aside0.mk (Kd.N_elder' (by (with_reducible repeat (first | apply Kd.N_alloc | apply Kd.N_drewN | apply Kd.N_drew)); exact HO249.out) (by first | exact Kd.N_base ho0 | exact Kd.S_base ho0) hb); have n1_ := Aside0.mk (Kd.N_lower (Kd.N_mono (ok' := fun k_ => some k_ ≠ (.slice Ao61 t247.length co61 : Value).ownBlock) (Kd.S_N (Kd.S_bound ho0)) (fun k_ hk_ => (Kd.fresh' (Kd.N_lt (by (with_reducible repeat (first | apply Kd.N_alloc | apply Kd.N_drewN | apply Kd.N_drew)); exact HO249.out)) k_ hk_.2.1))) (below_size (by repeat (first | exact HB.out | apply below_alloc | apply pw_below_drewN | apply below_drew1)))); have n2_ := Aside0.mk (below_step (by repeat (first | exact HB.out | apply below_alloc | apply pw_below_drewN | apply below_drew1)) hb); clear HO249; clear HB; have HO249 := n0_; have HO252 := n1_; have HB := n2_; clear n0_ n1_ n2_; (try clear hb); (try clear hb2); (try clear hk); (try clear hi); (try clear ho0); obtain ⟨Ao63, co63, eo63⟩ := Kd.N_slice HO252.out; subst eo63) | (go_at_call 37; (with_reducible refine (spec_l20Ways.calls k _ _ t247 _ _ t250 a3 t253 _ ?side1 ?side2 ?side3 ?side4 A10.out).mono ?_); (case side1 => repeat (first | exact (Kd.N_reads' HO249.out).2.2 | (with_reducible refine Kd.C_alloc ?_ _) | (with_reducible refine Kd.C_drewN ?_ _) | (with_reducible refine Kd.C_drew ?_))); (case side2 => exact (Kd.N_reads' HO249.out).2.1); (case side3 => repeat (first | exact (Kd.N_reads' HO252.out).2.2 | (with_reducible refine Kd.C_alloc ?_ _) | (with_reducible refine Kd.C_drewN ?_ _) | (with_reducible refine Kd.C_drew ?_))); (case side4 => exact (Kd.N_reads' HO252.out).2.1); rintro e w64 ⟨v254, rfl, ho0, hb⟩; have n0_ := Aside0.mk (Kd.N_elder' (by (with_reducible repeat (first | apply Kd.N_alloc | apply Kd.N_drewN | apply Kd.N_drew)); exact HO249.out) (by first | exact Kd.N_base ho0 | exact Kd.S_base ho0) hb); have n1_ := Aside0.mk (Kd.N_elder' (by (with_reducible repeat (first | apply Kd.N_alloc | apply Kd.N_drewN | apply Kd.N_drew)); exact HO252.out) (by first | exact Kd.N_base ho0 | exact Kd.S_base ho0) hb); have n2_ := Aside0.mk (Kd.N_lower (Kd.N_mono (ok' := fun k_ => some k_ ≠ (.slice Ao61 t247.length co61 : Value).ownBlock ∧ some k_ ≠ (.slice Ao63 t250.length co63 : Value).ownBlock) ho0 (fun k_ hk_ => ⟨(Kd.fresh' (Kd.N_lt (by (with_reducible repeat (first | apply Kd.N_alloc | apply Kd.N_drewN | apply Kd.N_drew)); exact HO249.out)) k_ hk_), (Kd.fresh' (Kd.N_lt (by (with_reducible repeat (first | apply Kd.N_alloc | apply Kd.N_drewN | apply Kd.N_drew)); exact HO252.out)) k_ hk_)⟩)) (below_size (by repeat (first | exact HB.out | apply below_alloc | apply pw_below_drewN | apply below_drew1)))); have n3_ := Aside0.mk (below_step (by repeat (first | exact HB.out | apply below_alloc | apply pw_below_drewN | apply below_drew1)) hb); clear HO249; clear HO252; clear HB; have HO249 := n0_; have HO252 := n1_; have HO255 := n2_; have HB := n3_; clear n0_ n1_ n2_ n3_; (try clear hb); (try clear hb2); (try clear hk); (try clear hi); (try clear ho0); obtain ⟨Ao65, co65, eo65⟩ := Kd.N_slice HO255.out; subst eo65; have p256 : 0 ≤ (0 : Int) := (by omega); have q256 : 0 < (t253.length : Int) := of_decide_eq_true (by assumption); obtain ⟨ad256, A256_0, c256_0, e256, hx256_0, hl256_0, hi256_0⟩ := at_L3 (Kd.N_reads' HO255.out).2.2 0 p256 q256; cases e256; obtain ⟨ce256, hce256, hMe256, hcc256⟩ := Kd.N_get HO255.out [] 0 p256 (by first | exact q256 | exact of_decide_eq_true (by assumption) | (have e_ := (Kd.N_reads' HO255.out).1; omega)); obtain ⟨ua256_0, uc256_0, rfl, ul256_0, ge256_0⟩ := Kd.FK_slice_open hMe256; have hv256_0 := hcc256 0 _ rfl; rw [Nat.add_zero, show ((Kd.slice 2 (Kd.int .i64))).sz = 1 from rfl, Nat.mul_one] at hv256_0; replace hv256_0 := Option.some.inj (hv256_0.symm.trans hx256_0); injection hv256_0 with hva_ hvn_ hvc_; rw [hva_] at ge256_0; rw [hvc_] at ul256_0; have HL256_0 := Aside0.mk (show Kd.V (Kd.int .i64) 2 _ w.heap.size _ _ (rd_L3 t253 0) from Kd.V_mk ul256_0 ge256_0); clear hva_ hvn_ hvc_ ge256_0 ul256_0; clear hcc256 hce256; have qi256 : (0 < t253.length) = True := eq_true (by omega); (try rw [show ((0 : Int)).toNat = 0 from rfl] at hx256_0); (try rw [Addr.add_zero'] at hx256_0); have HR256_0 := Aside0.mk hi256_0; have HC256_0 := Aside0.mk hl256_0; clear hi256_0 hl256_0; replace p256 := eq_true p256; replace q256 := eq_true q256; have p257 : 0 ≤ (a3 : Int) := of_decide_eq_true (by assumption); have q257 : a3 < ((rd_L3 t253 0).length : Int) := of_decide_eq_true (by assumption); obtain ⟨ad257, e257, hx257_0⟩ := Kd.at_int (by repeat (first | (with_reducible exact HR256_0.out) | (with_reducible refine Kd.C_alloc ?_ _) | (with_reducible refine Kd.C_drewN ?_ _) | (with_reducible refine Kd.C_drew ?_) | exact HR256_0.out)) a3 p257 q257; cases e257; replace p257 := eq_true p257; replace q257 := eq_true q257; have p258 : 0 ≤ (0 : Int) := (by omega); have q258 : 0 < (t253.length : Int) := of_decide_eq_true (by assumption); obtain ⟨ad258, A258_0, c258_0, e258, hx258_0, hl258_0, hi258_0⟩ := at_L3 (Kd.N_reads' HO255.out).2.2 0 p258 q258; obtain rfl : ad256 = ad258 := (by injection e258); obtain ⟨ce258, hce258, hMe258, hcc258⟩ := Kd.N_get HO255.out [] 0 p258 (by first | exact q258 | exact of_decide_eq_true (by assumption) | (have e_ := (Kd.N_reads' HO255.out).1; omega)); obtain ⟨ua258_0, uc258_0, rfl, ul258_0, ge258_0⟩ := Kd.FK_slice_open hMe258; have hv258_0 := hcc258 0 _ rfl; rw [Nat.add_zero, show ((Kd.slice 2 (Kd.int .i64))).sz = 1 from rfl, Nat.mul_one] at hv258_0; replace hv258_0 := Option.some.inj (hv258_0.symm.trans hx258_0); injection hv258_0 with hva_ hvn_ hvc_; rw [hva_] at ge258_0; rw [hvc_] at ul258_0; have HL258_0 := Aside0.mk (show Kd.V (Kd.int .i64) 2 _ w.heap.size _ _ (rd_L3 t253 0) from Kd.V_mk ul258_0 ge258_0); clear hva_ hvn_ hvc_ ge258_0 ul258_0; clear hcc258 hce258; have qi258 : (0 < t253.length) = True := eq_true (by omega); (try rw [show ((0 : Int)).toNat = 0 from rfl] at hx258_0); (try rw [Addr.add_zero'] at hx258_0); have HR258_0 := Aside0.mk hi258_0; have HC258_0 := Aside0.mk hl258_0; clear hi258_0 hl258_0; replace p258 := eq_true p258; replace q258 := eq_true q258; have ea_ := Option.some.inj (hx256_0.symm.trans hx258_0); injection ea_ with ea_ en_ ec_; subst ea_; subst ec_; clear en_; have p259 : 0 ≤ (a3 : Int) := of_decide_eq_true (by assumption); have q259 : a3 < ((rd_L3 t253 0).length : Int) := of_decide_eq_true (by assumption); obtain ⟨ad259, e259, hx259_0⟩ := Kd.at_int (by repeat (first | (with_reducible exact HR258_0.out) | (with_reducible refine Kd.C_alloc ?_ _) | (with_reducible refine Kd.C_drewN ?_ _) | (with_reducible refine Kd.C_drew ?_) | exact HR258_0.out)) a3 p259 q259; cases e259; replace p259 := eq_true p259; replace q259 := eq_true q259) | (go_at_call 41; (with_reducible refine (spec_l00In.calls a4 0 (wrap64 ((rd (rd_L3 t253 0) a3) - 1)) false _ A22.out).mono ?_); rintro e w' ⟨rfl, ⟨nd, rfl⟩⟩; (try first | exact ⟨rfl, _, World.drewN_drewN _ _ _⟩ | exact ⟨rfl, _, Eq.trans (World.drewN_drewN _ _ _) (congrArg (World.drewN _) (Nat.add_assoc _ _ _))⟩))))
       go_ret2
       exact ⟨_, by first | rfl | (simp [errW_none, errW_some] <;> rfl) | (simp [*, errW_none, errW_some] <;> rfl), by first | exact Kd.R_nil _ _ _ _ _ | exact Kd.N_nil _ _ _ _ _ | exact Kd.V_nil _ _ _ _ _ | exact Kd.Q_nil _ _ _ _ _ | exact Kd.S_nil _ _ _ _ _, by repeat (first | exact HB.out | apply below_alloc | apply pw_below_drewN | apply below_drew1)⟩
    ·rw [if_neg c13] at H
     exact absurd H (by simp)
   ·rw [if_neg c12] at H
    exact absurd H (by simp)
  ·rw [if_neg c11] at H
   exact absurd H (by simp)
 ·rw [if_neg c7] at H
  have c7b0 : (t246 == 0) = false := beq_eq_false_iff_ne.mpr c7
  have c7b1 : (t246 != 0) = true := bne_iff_ne.mpr c7
  simp only [Option.some.injEq, Prod.mk.injEq] at H
  obtain ⟨rfl, rfl⟩ := H
  go_enter Try.func18, Try.ntmps18
  go_wp2_with (first | (go_at_call 35; (with_reducible refine (spec_l20Vary.calls k _ _ l0 _ _ l1 a2 a3 t246 _ ?side1 ?side2 ?side3 ?side4 A6.out).mono ?_); (case side1 => repeat (first | exact HR0.out | (with_reducible refine Kd.C_alloc ?_ _) | (with_reducible refine Kd.C_drewN ?_ _) | (with_reducible refine Kd.C_drew ?_))); (case side2 => exact HC0.out); (case side3 => repeat (first | exact HR1.out | (with_reducible refine Kd.C_alloc ?_ _) | (with_reducible refine Kd.C_drewN ?_ _) | (with_reducible refine Kd.C_drew ?_))); (case side4 => exact HC1.out); rintro e w66 ⟨rfl, hb⟩; have n0_ := Aside0.mk (below_step (by repeat (first | exact HB.out | apply below_alloc | apply pw_below_drewN | apply below_drew1)) hb); clear HB; have HB := n0_; clear n0_; (try clear hb); (try clear hb2); (try clear hk); (try clear hi)))
  repeat (go_quiet (first | (go_at_call 35; (with_reducible refine (spec_l20Vary.calls k _ _ l0 _ _ l1 a2 a3 t246 _ ?side1 ?side2 ?side3 ?side4 A6.out).mono ?_); (case side1 => repeat (first | exact HR0.out | (with_reducible refine Kd.C_alloc ?_ _) | (with_reducible refine Kd.C_drewN ?_ _) | (with_reducible refine Kd.C_drew ?_))); (case side2 => exact HC0.out); (case side3 => repeat (first | exact HR1.out | (with_reducible refine Kd.C_alloc ?_ _) | (with_reducible refine Kd.C_drewN ?_ _) | (with_reducible refine Kd.C_drew ?_))); (case side4 => exact HC1.out); rintro e w66 ⟨rfl, hb⟩; have n0_ := Aside0.mk (below_step (by repeat (first | exact HB.out | apply below_alloc | apply pw_below_drewN | apply below_drew1)) hb); clear HB; have HB := n0_; clear n0_; (try clear hb); (try clear hb2); (try clear hk); (try clear hi))); try go_wp2_with (first | (go_at_call 35; (with_reducible refine (spec_l20Vary.calls k _ _ l0 _ _ l1 a2 a3 t246 _ ?side1 ?side2 ?side3 ?side4 A6.out).mono ?_); (case side1 => repeat (first | exact HR0.out | (with_reducible refine Kd.C_alloc ?_ _) | (with_reducible refine Kd.C_drewN ?_ _) | (with_reducible refine Kd.C_drew ?_))); (case side2 => exact HC0.out); (case side3 => repeat (first | exact HR1.out | (with_reducible refine Kd.C_alloc ?_ _) | (with_reducible refine Kd.C_drewN ?_ _) | (with_reducible refine Kd.C_drew ?_))); (case side4 => exact HC1.out); rintro e w66 ⟨rfl, hb⟩; have n0_ := Aside0.mk (below_step (by repeat (first | exact HB.out | apply below_alloc | apply pw_below_drewN | apply below_drew1)) hb); clear HB; have HB := n0_; clear n0_; (try clear hb); (try clear hb2); (try clear hk); (try clear hi))))
  go_ret2
  exact ⟨_, by first | rfl | (simp [errW_none, errW_some] <;> rfl) | (simp [*, errW_none, errW_some] <;> rfl), by first | exact Kd.R_nil _ _ _ _ _ | exact Kd.N_nil _ _ _ _ _ | exact Kd.V_nil _ _ _ _ _ | exact Kd.Q_nil _ _ _ _ _ | exact Kd.S_nil _ _ _ _ _, by repeat (first | exact HB.out | apply below_alloc | apply pw_below_drewN | apply below_drew1)⟩

end Go.Proofs.Ytidbcglhpaamdaa.PFnExactNumberedVariation
