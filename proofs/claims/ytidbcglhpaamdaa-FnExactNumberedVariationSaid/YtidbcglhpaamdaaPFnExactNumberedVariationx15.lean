-- written by xprint.py, a program of this repo over the kit's print; not trusted: Lean checks it
import Derived.Test.YtidbcglhpaamdaaPFnExactNumberedVariationx0
import Derived.Test.YtidbcglhpaamdaaPFnExactNumberedVariationx6
import Derived.Test.YtidbcglhpaamdaaPFnExactNumberedVariationx7
import Derived.Test.YtidbcglhpaamdaaPFnExactNumberedVariationx13
import Derived.Test.YtidbcglhpaamdaaPFnExactNumberedVariationx14
namespace Go.Proofs.Ytidbcglhpaamdaa.PFnExactNumberedVariation
open Go.RowKit Go.Proofs.YtidbcglhpaamdaaW.PrintWords Go.Proofs.YtidbcglhpaamdaaW.PrintLast Go.Proofs.YtidbcglhpaamdaaW.PrintMore
attribute [local go_sem] max2_int min2_int max_two min_two max_three min_three max_four min_four   -- for this text's walks alone
set_option linter.unusedVariables false
set_option linter.unusedSimpArgs false

/-! ### laws_FnExactNumberedVariation: function 5 -/
mutual
def laws_FnExactNumberedVariation.j0 : Nat → List (S61) → List Int → Int → Int → Int → List Int → Int → List (S66) → List Int → List Int → Int → Bool → Option (Bool)
 | 0, _, _, _, _, _, _, _, _, _, _, _, _ => none
 | k + 1, x0, x1, x2, x3, x4, x12, x13, x14, x15, x16, x17, x63 => if x63 = true then (some false) else ((laws_toSyllableS.f k x0).bind fun t311 => ((laws_eqSyllableS.f k x14 t311).bind fun t314 => (if t314 = true then ((laws_toInt64S.f k x1).bind fun t315 => ((laws_eqInt64S.f k x15 t315).bind fun t318 => (if t318 = true then ((laws_markSyllableS.f k x14 1).bind fun bt319 => ((laws_markInt64S.f k x15 bt319.1).bind fun bt321 => (if bt321.1 < 0 then (laws_FnExactNumberedVariation.j1 k x0 x1 x2 x3 x4 x12 x13 x16 true) else ((laws_eqInt64S.f k x16 x12).bind fun t323 => (if t323 = true then (laws_FnExactNumberedVariation.j1 k x0 x1 x2 x3 x4 x12 x13 x16 (x17 != x13)) else (laws_FnExactNumberedVariation.j1 k x0 x1 x2 x3 x4 x12 x13 x16 true)))))) else (some false)))) else (some false))))
def laws_FnExactNumberedVariation.j1 : Nat → List (S61) → List Int → Int → Int → Int → List Int → Int → List Int → Bool → Option (Bool)
 | 0, _, _, _, _, _, _, _, _, _ => none
 | k + 1, x0, x1, x2, x3, x4, x12, x13, x16, x92 => if x92 = true then (some false) else ((laws_markInt64S.f k x16 1).bind fun bt324 => ((laws_heldInt64S.f k bt324.2 1).bind fun t326 => (if t326 < 0 then (some false) else (if t326 = bt324.1 then ((laws_toSyllableS.f k x0).bind fun t327 => ((laws_toInt64S.f k x1).bind fun t330 => ((impl_NumberedVariation.f k t327 t330 x2 x3 x4).bind fun bt333 => ((laws_eqInt64S.f k bt333.1 x12).bind fun t337 => (if t337 = true then (laws_FnExactNumberedVariation.j2 k bt324.2 bt324.1 (bt333.2 != x13)) else (laws_FnExactNumberedVariation.j2 k bt324.2 bt324.1 true)))))) else (some false)))))
def laws_FnExactNumberedVariation.j2 : Nat → List Int → Int → Bool → Option (Bool)
 | 0, _, _, _ => none
 | k + 1, x16, x19, x123 => if x123 = true then (some false) else ((laws_heldInt64S.f k x16 1).bind fun t338 => (if t338 < 0 then (some false) else (if t338 = x19 then (some true) else (some false))))
end
def laws_FnExactNumberedVariation.f (k : Nat) (l0 : List (S61)) (l1 : List Int) (a2 : Int) (a3 : Int) (a4 : Int) : Option (Bool) := if (l1.length : Int) > 1048576 then (some true) else ((laws_szSyllableS.f k l0 1048576).bind fun t289 => (if t289 < 0 then (some true) else ((laws_toSyllableS.f k l0).bind fun t290 => ((laws_toInt64S.f k l1).bind fun t293 => ((spec_NumberedVariation.f k t290 t293 a2 a3 a4).bind fun bt296 => ((laws_toSyllableS.f k l0).bind fun t300 => ((laws_toInt64S.f k l1).bind fun t303 => ((impl_NumberedVariation.f k t300 t303 a2 a3 a4).bind fun bt306 => ((laws_eqInt64S.f k bt306.1 bt296.1).bind fun t310 => (if t310 = true then (laws_FnExactNumberedVariation.j0 k l0 l1 a2 a3 a4 bt296.1 bt296.2 t300 t303 bt306.1 bt306.2 (bt306.2 != bt296.2)) else (laws_FnExactNumberedVariation.j0 k l0 l1 a2 a3 a4 bt296.1 bt296.2 t300 t303 bt306.1 bt306.2 true)))))))))))
theorem laws_FnExactNumberedVariation.mono_l : ∀ k, (∀ y0 y1 y2 y3 y4 y5 y6 y7 y8 y9 y10 y11, LeO (laws_FnExactNumberedVariation.j0 k y0 y1 y2 y3 y4 y5 y6 y7 y8 y9 y10 y11) (laws_FnExactNumberedVariation.j0 (k + 1) y0 y1 y2 y3 y4 y5 y6 y7 y8 y9 y10 y11)) ∧ (∀ y0 y1 y2 y3 y4 y5 y6 y7 y8, LeO (laws_FnExactNumberedVariation.j1 k y0 y1 y2 y3 y4 y5 y6 y7 y8) (laws_FnExactNumberedVariation.j1 (k + 1) y0 y1 y2 y3 y4 y5 y6 y7 y8)) ∧ (∀ y0 y1 y2, LeO (laws_FnExactNumberedVariation.j2 k y0 y1 y2) (laws_FnExactNumberedVariation.j2 (k + 1) y0 y1 y2))
 | 0 => ⟨fun _ _ _ _ _ _ _ _ _ _ _ _ r h => by simp [laws_FnExactNumberedVariation.j0] at h, fun _ _ _ _ _ _ _ _ _ r h => by simp [laws_FnExactNumberedVariation.j1] at h, fun _ _ _ r h => by simp [laws_FnExactNumberedVariation.j2] at h⟩
 | k + 1 => by
  obtain ⟨ih0, ih1, ih2⟩ := laws_FnExactNumberedVariation.mono_l k
  refine ⟨?_, ?_, ?_⟩
  ·intro y0 y1 y2 y3 y4 y5 y6 y7 y8 y9 y10 y11
   unfold laws_FnExactNumberedVariation.j0
   repeat' first
   | (with_reducible exact ih0 _ _ _ _ _ _ _ _ _ _ _ _)
   | (with_reducible exact ih1 _ _ _ _ _ _ _ _ _)
   | (with_reducible exact ih2 _ _ _)
   | (with_reducible exact impl_NumberedVariation.mono _ _ _ _ _ _)
   | (with_reducible exact laws_eqInt64S.mono _ _ _)
   | (with_reducible exact laws_eqSyllableS.mono _ _ _)
   | (with_reducible exact laws_heldInt64S.mono _ _ _)
   | (with_reducible exact laws_markInt64S.mono _ _ _)
   | (with_reducible exact laws_markSyllableS.mono _ _ _)
   | (with_reducible exact laws_szSyllableS.mono _ _ _)
   | (with_reducible exact laws_toInt64S.mono _ _)
   | (with_reducible exact laws_toSyllableS.mono _ _)
   | (with_reducible exact spec_NumberedVariation.mono _ _ _ _ _ _)
   | (with_reducible exact LeO.refl _)
   | (with_reducible exact LeO.none _)
   | (with_reducible refine LeO.ite ?_ ?_)
   | (with_reducible refine LeO.bind ?_ (fun _ => ?_))
   | exact ih0 _ _ _ _ _ _ _ _ _ _ _ _
   | exact ih1 _ _ _ _ _ _ _ _ _
   | exact ih2 _ _ _
   | exact impl_NumberedVariation.mono _ _ _ _ _ _
   | exact laws_eqInt64S.mono _ _ _
   | exact laws_eqSyllableS.mono _ _ _
   | exact laws_heldInt64S.mono _ _ _
   | exact laws_markInt64S.mono _ _ _
   | exact laws_markSyllableS.mono _ _ _
   | exact laws_szSyllableS.mono _ _ _
   | exact laws_toInt64S.mono _ _
   | exact laws_toSyllableS.mono _ _
   | exact spec_NumberedVariation.mono _ _ _ _ _ _
   | exact LeO.none _
   | refine LeO.ite ?_ ?_
   | refine LeO.bind ?_ (fun _ => ?_)
  ·intro y0 y1 y2 y3 y4 y5 y6 y7 y8
   unfold laws_FnExactNumberedVariation.j1
   repeat' first
   | (with_reducible exact ih0 _ _ _ _ _ _ _ _ _ _ _ _)
   | (with_reducible exact ih1 _ _ _ _ _ _ _ _ _)
   | (with_reducible exact ih2 _ _ _)
   | (with_reducible exact impl_NumberedVariation.mono _ _ _ _ _ _)
   | (with_reducible exact laws_eqInt64S.mono _ _ _)
   | (with_reducible exact laws_eqSyllableS.mono _ _ _)
   | (with_reducible exact laws_heldInt64S.mono _ _ _)
   | (with_reducible exact laws_markInt64S.mono _ _ _)
   | (with_reducible exact laws_markSyllableS.mono _ _ _)
   | (with_reducible exact laws_szSyllableS.mono _ _ _)
   | (with_reducible exact laws_toInt64S.mono _ _)
   | (with_reducible exact laws_toSyllableS.mono _ _)
   | (with_reducible exact spec_NumberedVariation.mono _ _ _ _ _ _)
   | (with_reducible exact LeO.refl _)
   | (with_reducible exact LeO.none _)
   | (with_reducible refine LeO.ite ?_ ?_)
   | (with_reducible refine LeO.bind ?_ (fun _ => ?_))
   | exact ih0 _ _ _ _ _ _ _ _ _ _ _ _
   | exact ih1 _ _ _ _ _ _ _ _ _
   | exact ih2 _ _ _
   | exact impl_NumberedVariation.mono _ _ _ _ _ _
   | exact laws_eqInt64S.mono _ _ _
   | exact laws_eqSyllableS.mono _ _ _
   | exact laws_heldInt64S.mono _ _ _
   | exact laws_markInt64S.mono _ _ _
   | exact laws_markSyllableS.mono _ _ _
   | exact laws_szSyllableS.mono _ _ _
   | exact laws_toInt64S.mono _ _
   | exact laws_toSyllableS.mono _ _
   | exact spec_NumberedVariation.mono _ _ _ _ _ _
   | exact LeO.none _
   | refine LeO.ite ?_ ?_
   | refine LeO.bind ?_ (fun _ => ?_)
  ·intro y0 y1 y2
   unfold laws_FnExactNumberedVariation.j2
   repeat' first
   | (with_reducible exact ih0 _ _ _ _ _ _ _ _ _ _ _ _)
   | (with_reducible exact ih1 _ _ _ _ _ _ _ _ _)
   | (with_reducible exact ih2 _ _ _)
   | (with_reducible exact impl_NumberedVariation.mono _ _ _ _ _ _)
   | (with_reducible exact laws_eqInt64S.mono _ _ _)
   | (with_reducible exact laws_eqSyllableS.mono _ _ _)
   | (with_reducible exact laws_heldInt64S.mono _ _ _)
   | (with_reducible exact laws_markInt64S.mono _ _ _)
   | (with_reducible exact laws_markSyllableS.mono _ _ _)
   | (with_reducible exact laws_szSyllableS.mono _ _ _)
   | (with_reducible exact laws_toInt64S.mono _ _)
   | (with_reducible exact laws_toSyllableS.mono _ _)
   | (with_reducible exact spec_NumberedVariation.mono _ _ _ _ _ _)
   | (with_reducible exact LeO.refl _)
   | (with_reducible exact LeO.none _)
   | (with_reducible refine LeO.ite ?_ ?_)
   | (with_reducible refine LeO.bind ?_ (fun _ => ?_))
   | exact ih0 _ _ _ _ _ _ _ _ _ _ _ _
   | exact ih1 _ _ _ _ _ _ _ _ _
   | exact ih2 _ _ _
   | exact impl_NumberedVariation.mono _ _ _ _ _ _
   | exact laws_eqInt64S.mono _ _ _
   | exact laws_eqSyllableS.mono _ _ _
   | exact laws_heldInt64S.mono _ _ _
   | exact laws_markInt64S.mono _ _ _
   | exact laws_markSyllableS.mono _ _ _
   | exact laws_szSyllableS.mono _ _ _
   | exact laws_toInt64S.mono _ _
   | exact laws_toSyllableS.mono _ _
   | exact spec_NumberedVariation.mono _ _ _ _ _ _
   | exact LeO.none _
   | refine LeO.ite ?_ ?_
   | refine LeO.bind ?_ (fun _ => ?_)
theorem laws_FnExactNumberedVariation.mono : ∀ a0 a1 a2 a3 a4 k, LeO (laws_FnExactNumberedVariation.f k a0 a1 a2 a3 a4) (laws_FnExactNumberedVariation.f (k + 1) a0 a1 a2 a3 a4) := by
 intro a0 a1 a2 a3 a4 k
 obtain ⟨ih0, ih1, ih2⟩ := laws_FnExactNumberedVariation.mono_l k
 unfold laws_FnExactNumberedVariation.f
 repeat' first
   | (with_reducible exact ih0 _ _ _ _ _ _ _ _ _ _ _ _)
   | (with_reducible exact ih1 _ _ _ _ _ _ _ _ _)
   | (with_reducible exact ih2 _ _ _)
   | (with_reducible exact impl_NumberedVariation.mono _ _ _ _ _ _)
   | (with_reducible exact laws_eqInt64S.mono _ _ _)
   | (with_reducible exact laws_eqSyllableS.mono _ _ _)
   | (with_reducible exact laws_heldInt64S.mono _ _ _)
   | (with_reducible exact laws_markInt64S.mono _ _ _)
   | (with_reducible exact laws_markSyllableS.mono _ _ _)
   | (with_reducible exact laws_szSyllableS.mono _ _ _)
   | (with_reducible exact laws_toInt64S.mono _ _)
   | (with_reducible exact laws_toSyllableS.mono _ _)
   | (with_reducible exact spec_NumberedVariation.mono _ _ _ _ _ _)
   | (with_reducible exact LeO.refl _)
   | (with_reducible exact LeO.none _)
   | (with_reducible refine LeO.ite ?_ ?_)
   | (with_reducible refine LeO.bind ?_ (fun _ => ?_))
   | exact ih0 _ _ _ _ _ _ _ _ _ _ _ _
   | exact ih1 _ _ _ _ _ _ _ _ _
   | exact ih2 _ _ _
   | exact impl_NumberedVariation.mono _ _ _ _ _ _
   | exact laws_eqInt64S.mono _ _ _
   | exact laws_eqSyllableS.mono _ _ _
   | exact laws_heldInt64S.mono _ _ _
   | exact laws_markInt64S.mono _ _ _
   | exact laws_markSyllableS.mono _ _ _
   | exact laws_szSyllableS.mono _ _ _
   | exact laws_toInt64S.mono _ _
   | exact laws_toSyllableS.mono _ _
   | exact spec_NumberedVariation.mono _ _ _ _ _ _
   | exact LeO.none _
   | refine LeO.ite ?_ ?_
   | refine LeO.bind ?_ (fun _ => ?_)
set_option maxHeartbeats 8000000 in
set_option maxRecDepth 100000 in
theorem laws_FnExactNumberedVariation.calls (k : Nat) (A0 : Option Addr) (c0 : Nat) (l0 : List (S61)) (A1 : Option Addr) (c1 : Nat) (l1 : List Int) (a2 : Int) (a3 : Int) (a4 : Int) (r : Bool) (w : World) (hr0 : Kd.C k61 w A0 l0.length l0) (hc0 : l0.length ≤ c0) (hr1 : Kd.C (Kd.int .i64) w A1 l1.length l1) (hc1 : l1.length ≤ c1) (h : laws_FnExactNumberedVariation.f k l0 l1 a2 a3 a4 = some r) :
  Calls Try.prog 5 #[.slice A0 l0.length c0, .slice A1 l1.length c1, .int .i64 a2, .int .i64 a3, .int .i64 a4] w fun e w' => e = .returned (.bool r) ∧ Below w.heap.size w w' := by
 have HR0 := Aside0.mk hr0
 have HC0 := Aside0.mk hc0
 clear hr0 hc0
 have HR1 := Aside0.mk hr1
 have HC1 := Aside0.mk hc1
 clear hr1 hc1
 have HB := Aside0.mk (Below.refl w.heap.size w)
 have H : (if (l1.length : Int) > 1048576 then (some true) else ((laws_szSyllableS.f k l0 1048576).bind fun t289 => (if t289 < 0 then (some true) else ((laws_toSyllableS.f k l0).bind fun t290 => ((laws_toInt64S.f k l1).bind fun t293 => ((spec_NumberedVariation.f k t290 t293 a2 a3 a4).bind fun bt296 => ((laws_toSyllableS.f k l0).bind fun t300 => ((laws_toInt64S.f k l1).bind fun t303 => ((impl_NumberedVariation.f k t300 t303 a2 a3 a4).bind fun bt306 => ((laws_eqInt64S.f k bt306.1 bt296.1).bind fun t310 => (if t310 = true then (laws_FnExactNumberedVariation.j0 k l0 l1 a2 a3 a4 bt296.1 bt296.2 t300 t303 bt306.1 bt306.2 (bt306.2 != bt296.2)) else (laws_FnExactNumberedVariation.j0 k l0 l1 a2 a3 a4 bt296.1 bt296.2 t300 t303 bt306.1 bt306.2 true)))))))))))) = some r := h
 clear h
 by_cases c6 : (l1.length : Int) > 1048576
 ·rw [if_pos c6] at H
  have c6b0 : decide (1048576 < (l1.length : Int)) = true := decide_eq_true c6
  have c6b1 : decide (1048576 < l1.length) = true := decide_eq_true (by omega)
  clear c6
  obtain rfl := Option.some.inj H
  go_enter Try.func5, Try.ntmps5
  go_wp2
  go_ret
  exact ⟨by first | rfl | (simp [errW_none, errW_some] <;> rfl) | (simp [*, errW_none, errW_some] <;> rfl), by repeat (first | exact HB.out | apply below_alloc | apply pw_below_drewN | apply below_drew1)⟩
 ·rw [if_neg c6] at H
  have c6b0 : decide (1048576 < (l1.length : Int)) = false := decide_eq_false c6
  have c6b1 : decide (1048576 < l1.length) = false := decide_eq_false (by omega)
  clear c6
  replace H := Option.bind_eq_some_iff.mp H
  obtain ⟨t289, A70, H⟩ := H
  replace H : (if t289 < 0 then (some true) else ((laws_toSyllableS.f k l0).bind fun t290 => ((laws_toInt64S.f k l1).bind fun t293 => ((spec_NumberedVariation.f k t290 t293 a2 a3 a4).bind fun bt296 => ((laws_toSyllableS.f k l0).bind fun t300 => ((laws_toInt64S.f k l1).bind fun t303 => ((impl_NumberedVariation.f k t300 t303 a2 a3 a4).bind fun bt306 => ((laws_eqInt64S.f k bt306.1 bt296.1).bind fun t310 => (if t310 = true then (laws_FnExactNumberedVariation.j0 k l0 l1 a2 a3 a4 bt296.1 bt296.2 t300 t303 bt306.1 bt306.2 (bt306.2 != bt296.2)) else (laws_FnExactNumberedVariation.j0 k l0 l1 a2 a3 a4 bt296.1 bt296.2 t300 t303 bt306.1 bt306.2 true)))))))))) = some r := H
  have A7 := Aside0.mk A70
  clear A70
  by_cases c8 : t289 < 0
  ·rw [if_pos c8] at H
   have c8b0 : decide (t289 < 0) = true := decide_eq_true c8
   clear c8
   obtain rfl := Option.some.inj H
   go_enter Try.func5, Try.ntmps5
   go_wp2_with (first | ((with_reducible refine gate_callee (f := 12) rfl ?_); refine goesL_ (some 28) rfl rfl Try.func12 (by kernel_rfl) rfl #[.slice A0 l0.length c0, .int .i64 1048576] rfl (by (try simp only [List.map_toArray, List.map_cons, List.map_nil]); first | done | rfl) ?_; (with_reducible refine (laws_szSyllableS.calls k _ _ l0 1048576 t289 _ ?side1 ?side2 A7.out).mono ?_); (case side1 => exact HR0.out); (case side2 => exact HC0.out); rintro e w9 ⟨rfl, hb⟩; refine ⟨_, rfl, ?_⟩; have n0_ := Aside0.mk (below_step (by repeat (first | exact HB.out | apply below_alloc | apply pw_below_drewN | apply below_drew1)) hb); clear HB; have HB := n0_; clear n0_; (try clear hb); (try clear hb2); (try clear hk); (try clear hi)))
   go_ret
   exact ⟨by first | rfl | (simp [errW_none, errW_some] <;> rfl) | (simp [*, errW_none, errW_some] <;> rfl), by repeat (first | exact HB.out | apply below_alloc | apply pw_below_drewN | apply below_drew1)⟩
  ·rw [if_neg c8] at H
   have c8b0 : decide (t289 < 0) = false := decide_eq_false c8
   clear c8
   replace H := Option.bind_eq_some_iff.mp H
   obtain ⟨t290, A100, H⟩ := H
   replace H : ((laws_toInt64S.f k l1).bind fun t293 => ((spec_NumberedVariation.f k t290 t293 a2 a3 a4).bind fun bt296 => ((laws_toSyllableS.f k l0).bind fun t300 => ((laws_toInt64S.f k l1).bind fun t303 => ((impl_NumberedVariation.f k t300 t303 a2 a3 a4).bind fun bt306 => ((laws_eqInt64S.f k bt306.1 bt296.1).bind fun t310 => (if t310 = true then (laws_FnExactNumberedVariation.j0 k l0 l1 a2 a3 a4 bt296.1 bt296.2 t300 t303 bt306.1 bt306.2 (bt306.2 != bt296.2)) else (laws_FnExactNumberedVariation.j0 k l0 l1 a2 a3 a4 bt296.1 bt296.2 t300 t303 bt306.1 bt306.2 true)))))))) = some r := H
   have A10 := Aside0.mk A100
   clear A100
   replace H := Option.bind_eq_some_iff.mp H
   obtain ⟨t293, A110, H⟩ := H
   replace H : ((spec_NumberedVariation.f k t290 t293 a2 a3 a4).bind fun bt296 => ((laws_toSyllableS.f k l0).bind fun t300 => ((laws_toInt64S.f k l1).bind fun t303 => ((impl_NumberedVariation.f k t300 t303 a2 a3 a4).bind fun bt306 => ((laws_eqInt64S.f k bt306.1 bt296.1).bind fun t310 => (if t310 = true then (laws_FnExactNumberedVariation.j0 k l0 l1 a2 a3 a4 bt296.1 bt296.2 t300 t303 bt306.1 bt306.2 (bt306.2 != bt296.2)) else (laws_FnExactNumberedVariation.j0 k l0 l1 a2 a3 a4 bt296.1 bt296.2 t300 t303 bt306.1 bt306.2 true))))))) = some r := H
   have A11 := Aside0.mk A110
   clear A110
   replace H := Option.bind_eq_some_iff.mp H
   obtain ⟨⟨t296, t297⟩, A120, H⟩ := H
   replace H : ((laws_toSyllableS.f k l0).bind fun t300 => ((laws_toInt64S.f k l1).bind fun t303 => ((impl_NumberedVariation.f k t300 t303 a2 a3 a4).bind fun bt306 => ((laws_eqInt64S.f k bt306.1 t296).bind fun t310 => (if t310 = true then (laws_FnExactNumberedVariation.j0 k l0 l1 a2 a3 a4 t296 t297 t300 t303 bt306.1 bt306.2 (bt306.2 != t297)) else (laws_FnExactNumberedVariation.j0 k l0 l1 a2 a3 a4 t296 t297 t300 t303 bt306.1 bt306.2 true)))))) = some r := H
   have A12 := Aside0.mk A120
   clear A120
   replace H := Option.bind_eq_some_iff.mp H
   obtain ⟨t300, A130, H⟩ := H
   replace H : ((laws_toInt64S.f k l1).bind fun t303 => ((impl_NumberedVariation.f k t300 t303 a2 a3 a4).bind fun bt306 => ((laws_eqInt64S.f k bt306.1 t296).bind fun t310 => (if t310 = true then (laws_FnExactNumberedVariation.j0 k l0 l1 a2 a3 a4 t296 t297 t300 t303 bt306.1 bt306.2 (bt306.2 != t297)) else (laws_FnExactNumberedVariation.j0 k l0 l1 a2 a3 a4 t296 t297 t300 t303 bt306.1 bt306.2 true))))) = some r := H
   have A13 := Aside0.mk A130
   clear A130
   replace H := Option.bind_eq_some_iff.mp H
   obtain ⟨t303, A140, H⟩ := H
   replace H : ((impl_NumberedVariation.f k t300 t303 a2 a3 a4).bind fun bt306 => ((laws_eqInt64S.f k bt306.1 t296).bind fun t310 => (if t310 = true then (laws_FnExactNumberedVariation.j0 k l0 l1 a2 a3 a4 t296 t297 t300 t303 bt306.1 bt306.2 (bt306.2 != t297)) else (laws_FnExactNumberedVariation.j0 k l0 l1 a2 a3 a4 t296 t297 t300 t303 bt306.1 bt306.2 true)))) = some r := H
   have A14 := Aside0.mk A140
   clear A140
   replace H := Option.bind_eq_some_iff.mp H
   obtain ⟨⟨t306, t307⟩, A150, H⟩ := H
   replace H : ((laws_eqInt64S.f k t306 t296).bind fun t310 => (if t310 = true then (laws_FnExactNumberedVariation.j0 k l0 l1 a2 a3 a4 t296 t297 t300 t303 t306 t307 (t307 != t297)) else (laws_FnExactNumberedVariation.j0 k l0 l1 a2 a3 a4 t296 t297 t300 t303 t306 t307 true))) = some r := H
   have A15 := Aside0.mk A150
   clear A150
   have HC16 := Aside0.mk H
   clear H
   go_enter Try.func5, Try.ntmps5
   go_upto_region 11 with (first | ((with_reducible refine gate_callee (f := 12) rfl ?_); refine goesL_ (some 28) rfl rfl Try.func12 (by kernel_rfl) rfl #[.slice A0 l0.length c0, .int .i64 1048576] rfl (by (try simp only [List.map_toArray, List.map_cons, List.map_nil]); first | done | rfl) ?_; (with_reducible refine (laws_szSyllableS.calls k _ _ l0 1048576 t289 _ ?side1 ?side2 A7.out).mono ?_); (case side1 => exact HR0.out); (case side2 => exact HC0.out); rintro e w17 ⟨rfl, hb⟩; refine ⟨_, rfl, ?_⟩; have n0_ := Aside0.mk (below_step (by repeat (first | exact HB.out | apply below_alloc | apply pw_below_drewN | apply below_drew1)) hb); clear HB; have HB := n0_; clear n0_; (try clear hb); (try clear hb2); (try clear hk); (try clear hi)) | ((with_reducible refine gate_callee (f := 14) rfl ?_); refine goesL_ (some 33) rfl rfl Try.func14 (by kernel_rfl) rfl #[.slice A0 l0.length c0] rfl (by (try simp only [List.map_toArray, List.map_cons, List.map_nil]); first | done | rfl) ?_; (with_reducible refine (laws_toSyllableS.calls k _ _ l0 t290 _ ?side1 ?side2 A10.out).mono ?_); (case side1 => exact (Kd.C_below HR0.out HB.out)); (case side2 => exact HC0.out); rintro e w18 ⟨v291, rfl, ho0, hb⟩; refine ⟨_, rfl, ?_⟩; have n0_ := Aside0.mk (Kd.R_lower ho0 (below_size (by repeat (first | exact HB.out | apply below_alloc | apply pw_below_drewN | apply below_drew1)))); have n1_ := Aside0.mk (below_step (by repeat (first | exact HB.out | apply below_alloc | apply pw_below_drewN | apply below_drew1)) hb); clear HB; have HO292 := n0_; have HB := n1_; clear n0_ n1_; (try clear hb); (try clear hb2); (try clear hk); (try clear hi); (try clear ho0)) | ((with_reducible refine gate_callee (f := 15) rfl ?_); refine goesL_ (some 35) rfl rfl Try.func15 (by kernel_rfl) rfl #[.slice A1 l1.length c1] rfl (by (try simp only [List.map_toArray, List.map_cons, List.map_nil]); first | done | rfl) ?_; (with_reducible refine (laws_toInt64S.calls k _ _ l1 t293 _ ?side1 ?side2 A11.out).mono ?_); (case side1 => exact (Kd.C_below HR1.out HB.out)); (case side2 => exact HC1.out); rintro e w19 ⟨v294, rfl, ho0, hb⟩; refine ⟨_, rfl, ?_⟩; have n0_ := Aside0.mk (Kd.R_below (by exact HO292.out) hb); have n1_ := Aside0.mk (Kd.R_lower ho0 (below_size (by repeat (first | exact HB.out | apply below_alloc | apply pw_below_drewN | apply below_drew1)))); have n2_ := Aside0.mk (below_step (by repeat (first | exact HB.out | apply below_alloc | apply pw_below_drewN | apply below_drew1)) hb); clear HO292; clear HB; have HO292 := n0_; have HO295 := n1_; have HB := n2_; clear n0_ n1_ n2_; (try clear hb); (try clear hb2); (try clear hk); (try clear hi); (try clear ho0); obtain ⟨Ao20, co20, eo20⟩ := Kd.R_slice HO292.out; subst eo20; obtain ⟨Ao21, co21, eo21⟩ := Kd.R_slice HO295.out; subst eo21) | ((with_reducible refine gate_callee (f := 18) rfl ?_); refine goesL_ (some 39) rfl rfl Try.func18 (by kernel_rfl) rfl #[.slice Ao20 t290.length co20, .slice Ao21 t293.length co21, .int .i64 a2, .int .i64 a3, .int .i64 a4] rfl (by (try simp only [List.map_toArray, List.map_cons, List.map_nil]); first | done | rfl) ?_; (with_reducible refine (spec_NumberedVariation.calls k _ _ t290 _ _ t293 a2 a3 a4 t296 t297 _ ?side1 ?side2 ?side3 ?side4 A12.out).mono ?_); (case side1 => exact (Kd.R_reads' HO292.out).2.2); (case side2 => exact (Kd.R_reads' HO292.out).2.1); (case side3 => exact (Kd.R_reads' HO295.out).2.2); (case side4 => exact (Kd.R_reads' HO295.out).2.1); rintro e w22 ⟨v298, rfl, ho0, hb⟩; refine ⟨_, rfl, ?_⟩; have n0_ := Aside0.mk (Kd.R_below (by exact HO292.out) hb); have n1_ := Aside0.mk (Kd.R_elder' (by exact HO295.out) (Kd.R_base ho0) hb); have n2_ := Aside0.mk (Kd.R_lower (Kd.R_new' ho0 (Kd.R_lt (by exact HO295.out))) (below_size (by repeat (first | exact HB.out | apply below_alloc | apply pw_below_drewN | apply below_drew1)))); have n3_ := Aside0.mk (below_step (by repeat (first | exact HB.out | apply below_alloc | apply pw_below_drewN | apply below_drew1)) hb); clear HO292; clear HO295; clear HB; have HO292 := n0_; have HO295 := n1_; have HO299 := n2_; have HB := n3_; clear n0_ n1_ n2_ n3_; (try clear hb); (try clear hb2); (try clear hk); (try clear hi); (try clear ho0)) | ((with_reducible refine gate_callee (f := 14) rfl ?_); refine goesL_ (some 43) rfl rfl Try.func14 (by kernel_rfl) rfl #[.slice A0 l0.length c0] rfl (by (try simp only [List.map_toArray, List.map_cons, List.map_nil]); first | done | rfl) ?_; (with_reducible refine (laws_toSyllableS.calls k _ _ l0 t300 _ ?side1 ?side2 A13.out).mono ?_); (case side1 => exact (Kd.C_below HR0.out HB.out)); (case side2 => exact HC0.out); rintro e w23 ⟨v301, rfl, ho0, hb⟩; refine ⟨_, rfl, ?_⟩; have n0_ := Aside0.mk (Kd.R_elder' (by exact HO292.out) (Kd.R_base ho0) hb); have n1_ := Aside0.mk (Kd.R_below (by exact HO295.out) hb); have n2_ := Aside0.mk (Kd.R_below (by exact HO299.out) hb); have n3_ := Aside0.mk (Kd.R_lower (Kd.R_new' ho0 (Kd.R_lt (by exact HO292.out))) (below_size (by repeat (first | exact HB.out | apply below_alloc | apply pw_below_drewN | apply below_drew1)))); have n4_ := Aside0.mk (below_step (by repeat (first | exact HB.out | apply below_alloc | apply pw_below_drewN | apply below_drew1)) hb); clear HO292; clear HO295; clear HO299; clear HB; have HO292 := n0_; have HO295 := n1_; have HO299 := n2_; have HO302 := n3_; have HB := n4_; clear n0_ n1_ n2_ n3_ n4_; (try clear hb); (try clear hb2); (try clear hk); (try clear hi); (try clear ho0)) | ((with_reducible refine gate_callee (f := 15) rfl ?_); refine goesL_ (some 45) rfl rfl Try.func15 (by kernel_rfl) rfl #[.slice A1 l1.length c1] rfl (by (try simp only [List.map_toArray, List.map_cons, List.map_nil]); first | done | rfl) ?_; (with_reducible refine (laws_toInt64S.calls k _ _ l1 t303 _ ?side1 ?side2 A14.out).mono ?_); (case side1 => exact (Kd.C_below HR1.out HB.out)); (case side2 => exact HC1.out); rintro e w24 ⟨v304, rfl, ho0, hb⟩; refine ⟨_, rfl, ?_⟩; have n0_ := Aside0.mk (Kd.R_below (by exact HO292.out) hb); have n1_ := Aside0.mk (Kd.R_elder' (by exact HO295.out) (Kd.R_base ho0) hb); have n2_ := Aside0.mk (Kd.R_elder' (by exact HO299.out) (Kd.R_base ho0) hb); have n3_ := Aside0.mk (Kd.R_below (by exact HO302.out) hb); have n4_ := Aside0.mk (Kd.R_lower (Kd.R_new' (Kd.R_new' ho0 (Kd.R_lt (by exact HO295.out))) (Kd.R_lt (by exact HO299.out))) (below_size (by repeat (first | exact HB.out | apply below_alloc | apply pw_below_drewN | apply below_drew1)))); have n5_ := Aside0.mk (below_step (by repeat (first | exact HB.out | apply below_alloc | apply pw_below_drewN | apply below_drew1)) hb); clear HO292; clear HO295; clear HO299; clear HO302; clear HB; have HO292 := n0_; have HO295 := n1_; have HO299 := n2_; have HO302 := n3_; have HO305 := n4_; have HB := n5_; clear n0_ n1_ n2_ n3_ n4_ n5_; (try clear hb); (try clear hb2); (try clear hk); (try clear hi); (try clear ho0); obtain ⟨Ao25, co25, eo25⟩ := Kd.R_slice HO302.out; subst eo25; obtain ⟨Ao26, co26, eo26⟩ := Kd.R_slice HO305.out; subst eo26) | ((with_reducible refine gate_callee (f := 9) rfl ?_); refine goesL_ (some 52) rfl rfl Try.func9 (by kernel_rfl) rfl #[.slice Ao25 t300.length co25, .slice Ao26 t303.length co26, .int .i64 a2, .int .i64 a3, .int .i64 a4] rfl (by (try simp only [List.map_toArray, List.map_cons, List.map_nil]); first | done | rfl) ?_; (with_reducible refine (impl_NumberedVariation.calls k _ _ t300 _ _ t303 a2 a3 a4 t306 t307 _ ?side1 ?side2 ?side3 ?side4 A15.out).mono ?_); (case side1 => exact (Kd.R_reads' HO302.out).2.2); (case side2 => exact (Kd.R_reads' HO302.out).2.1); (case side3 => exact (Kd.R_reads' HO305.out).2.2); (case side4 => exact (Kd.R_reads' HO305.out).2.1); rintro e w27 ⟨v308, rfl, ho0, hb⟩; refine ⟨_, rfl, ?_⟩; have n0_ := Aside0.mk (Kd.R_below (by exact HO292.out) hb); have n1_ := Aside0.mk (Kd.R_elder' (by exact HO295.out) (Kd.R_base ho0) hb); have n2_ := Aside0.mk (Kd.R_elder' (by exact HO299.out) (Kd.R_base ho0) hb); have n3_ := Aside0.mk (Kd.R_below (by exact HO302.out) hb); have n4_ := Aside0.mk (Kd.R_elder' (by exact HO305.out) (Kd.R_base ho0) hb); have n5_ := Aside0.mk (Kd.R_lower (Kd.R_new' (Kd.R_new' (Kd.R_new' ho0 (Kd.R_lt (by exact HO295.out))) (Kd.R_lt (by exact HO299.out))) (Kd.R_lt (by exact HO305.out))) (below_size (by repeat (first | exact HB.out | apply below_alloc | apply pw_below_drewN | apply below_drew1)))); have n6_ := Aside0.mk (below_step (by repeat (first | exact HB.out | apply below_alloc | apply pw_below_drewN | apply below_drew1)) hb); clear HO292; clear HO295; clear HO299; clear HO302; clear HO305; clear HB; have HO292 := n0_; have HO295 := n1_; have HO299 := n2_; have HO302 := n3_; have HO305 := n4_; have HO309 := n5_; have HB := n6_; clear n0_ n1_ n2_ n3_ n4_ n5_ n6_; (try clear hb); (try clear hb2); (try clear hk); (try clear hi); (try clear ho0)))
   (try simp only [Act.put, List.setIfInBounds_toArray, List.set_cons_zero, List.set_cons_succ])
   go_cut [63] (fun v63 wc => ∃ (kq : Nat) (x63_15 : Bool), v63 = .bool x63_15 ∧ Aside0 (laws_FnExactNumberedVariation.j0 kq l0 l1 a2 a3 a4 t296 t297 t300 t303 t306 t307 x63_15 = some r) ∧ Aside0 (kq ≤ k) ∧ Aside0 (Kd.R (Kd.int .i64) 2 wc w.heap.size (fun k_ => some k_ ≠ ((.slice Ao26 t303.length co26) : Value).ownBlock ∧ some k_ ≠ (v308 : Value).ownBlock) v298 t296) ∧ Aside0 (Kd.R k66 66 wc w.heap.size (fun _ => True) (.slice Ao25 t300.length co25) t300) ∧ Aside0 (Kd.R (Kd.int .i64) 2 wc w.heap.size (fun k_ => some k_ ≠ (v298 : Value).ownBlock ∧ some k_ ≠ (v308 : Value).ownBlock) (.slice Ao26 t303.length co26) t303) ∧ Aside0 (Kd.R (Kd.int .i64) 2 wc w.heap.size (fun k_ => some k_ ≠ (v298 : Value).ownBlock ∧ some k_ ≠ ((.slice Ao26 t303.length co26) : Value).ownBlock) v308 t306) ∧ Aside0 (Below w.heap.size w wc))
   case first =>
    have H := HC16.out
    clear HC16
    replace H := Option.bind_eq_some_iff.mp H
    obtain ⟨t310, A280, H⟩ := H
    replace H : (if t310 = true then (laws_FnExactNumberedVariation.j0 k l0 l1 a2 a3 a4 t296 t297 t300 t303 t306 t307 (t307 != t297)) else (laws_FnExactNumberedVariation.j0 k l0 l1 a2 a3 a4 t296 t297 t300 t303 t306 t307 true)) = some r := H
    have A28 := Aside0.mk A280
    clear A280
    by_cases c29 : t310 = true
    ·subst c29
     have H1 : (laws_FnExactNumberedVariation.j0 k l0 l1 a2 a3 a4 t296 t297 t300 t303 t306 t307 (t307 != t297)) = some r := by rw [if_pos rfl] at H; exact H
     clear H
     have H := H1
     clear H1
     have H' := Aside0.mk H
     clear H
     obtain ⟨Ao30, co30, eo30⟩ := Kd.R_slice HO309.out
     subst eo30
     obtain ⟨Ao31, co31, eo31⟩ := Kd.R_slice HO299.out
     subst eo31
     go_wp2_with (first | ((with_reducible refine gate_callee (f := 17) rfl ?_); refine goesL_ (some 57) rfl rfl Try.func17 (by kernel_rfl) rfl #[.slice Ao30 t306.length co30, .slice Ao31 t296.length co31] rfl (by (try simp only [List.map_toArray, List.map_cons, List.map_nil]); first | done | rfl) ?_; (with_reducible refine (laws_eqInt64S.calls k _ _ t306 _ _ t296 true _ ?side1 ?side2 ?side3 ?side4 A28.out).mono ?_); (case side1 => exact (Kd.R_reads' HO309.out).2.2); (case side2 => exact (Kd.R_reads' HO309.out).2.1); (case side3 => exact (Kd.R_reads' HO299.out).2.2); (case side4 => exact (Kd.R_reads' HO299.out).2.1); rintro e w' ⟨rfl, ⟨nd, rfl⟩⟩; refine ⟨_, rfl, ?_⟩))
     go_meet
     case rel => exact ⟨_, ((t307 != t297)), (by first | rfl | (simp; done) | (simp [*]; done)), H', ⟨by first | omega | exact Nat.le_refl _⟩, ⟨by exact Kd.R_mono HO299.out (fun _ hk => ⟨hk.1.2, hk.2⟩)⟩, ⟨by exact Kd.R_mono HO302.out (fun _ hk => trivial)⟩, ⟨by exact Kd.R_mono HO305.out (fun _ hk => ⟨hk.1.2, hk.2⟩)⟩, ⟨by exact Kd.R_mono HO309.out (fun _ hk => ⟨hk.1.2, hk.2⟩)⟩, ⟨by repeat (first | exact HB.out | apply below_alloc | apply pw_below_drewN | apply below_drew1)⟩⟩
    ·replace c29 := Bool.eq_false_iff.mpr c29
     subst c29
     have H1 : (laws_FnExactNumberedVariation.j0 k l0 l1 a2 a3 a4 t296 t297 t300 t303 t306 t307 true) = some r := by rw [if_neg (show ¬ (false = true) by decide)] at H; exact H
     clear H
     have H := H1
     clear H1
     have H' := Aside0.mk H
     clear H
     obtain ⟨Ao32, co32, eo32⟩ := Kd.R_slice HO309.out
     subst eo32
     obtain ⟨Ao33, co33, eo33⟩ := Kd.R_slice HO299.out
     subst eo33
     go_wp2_with (first | ((with_reducible refine gate_callee (f := 17) rfl ?_); refine goesL_ (some 57) rfl rfl Try.func17 (by kernel_rfl) rfl #[.slice Ao32 t306.length co32, .slice Ao33 t296.length co33] rfl (by (try simp only [List.map_toArray, List.map_cons, List.map_nil]); first | done | rfl) ?_; (with_reducible refine (laws_eqInt64S.calls k _ _ t306 _ _ t296 false _ ?side1 ?side2 ?side3 ?side4 A28.out).mono ?_); (case side1 => exact (Kd.R_reads' HO309.out).2.2); (case side2 => exact (Kd.R_reads' HO309.out).2.1); (case side3 => exact (Kd.R_reads' HO299.out).2.2); (case side4 => exact (Kd.R_reads' HO299.out).2.1); rintro e w' ⟨rfl, ⟨nd, rfl⟩⟩; refine ⟨_, rfl, ?_⟩))
     go_meet
     case rel => exact ⟨_, (true), (by first | rfl | (simp; done) | (simp [*]; done)), H', ⟨by first | omega | exact Nat.le_refl _⟩, ⟨by exact Kd.R_mono HO299.out (fun _ hk => ⟨hk.1.2, hk.2⟩)⟩, ⟨by exact Kd.R_mono HO302.out (fun _ hk => trivial)⟩, ⟨by exact Kd.R_mono HO305.out (fun _ hk => ⟨hk.1.2, hk.2⟩)⟩, ⟨by exact Kd.R_mono HO309.out (fun _ hk => ⟨hk.1.2, hk.2⟩)⟩, ⟨by repeat (first | exact HB.out | apply below_alloc | apply pw_below_drewN | apply below_drew1)⟩⟩
   case rest =>
    clear HC16
    try clear c1
    try clear c2
    try clear p2
    try clear c5
    try clear c6
    try clear c6b0
    try clear c6b1
    try clear c8
    try clear c8b0
    try clear c9
    try clear c12
    try clear c14
    try clear c15
    try clear c17
    try clear c18
    try clear c29
    obtain ⟨kq, x63_15, rfl, HA, HJ15, HO_12, HO_14, HO_15, HO_16, HB⟩ := hcut
    cases kq with
    | zero => exact absurd HA.out (by simp [laws_FnExactNumberedVariation.j0])
    | succ kj15 =>
     have H := HA.out
     clear HA
     simp only [laws_FnExactNumberedVariation.j0] at H
     by_cases c34 : x63_15 = true
     ·subst c34
      have H1 : (some false) = some r := by rw [if_pos rfl] at H; exact H
      clear H
      have H := H1
      clear H1
      obtain rfl := Option.some.inj H
      go_wp2
      go_ret
      exact ⟨by first | rfl | (simp [errW_none, errW_some] <;> rfl) | (simp [*, errW_none, errW_some] <;> rfl), by repeat (first | exact HB.out | apply below_alloc | apply pw_below_drewN | apply below_drew1)⟩
     ·replace c34 := Bool.eq_false_iff.mpr c34
      subst c34
      have H1 : ((laws_toSyllableS.f kj15 l0).bind fun t311 => ((laws_eqSyllableS.f kj15 t300 t311).bind fun t314 => (if t314 = true then ((laws_toInt64S.f kj15 l1).bind fun t315 => ((laws_eqInt64S.f kj15 t303 t315).bind fun t318 => (if t318 = true then ((laws_markSyllableS.f kj15 t300 1).bind fun bt319 => ((laws_markInt64S.f kj15 t303 bt319.1).bind fun bt321 => (if bt321.1 < 0 then (laws_FnExactNumberedVariation.j1 kj15 l0 l1 a2 a3 a4 t296 t297 t306 true) else ((laws_eqInt64S.f kj15 t306 t296).bind fun t323 => (if t323 = true then (laws_FnExactNumberedVariation.j1 kj15 l0 l1 a2 a3 a4 t296 t297 t306 (t307 != t297)) else (laws_FnExactNumberedVariation.j1 kj15 l0 l1 a2 a3 a4 t296 t297 t306 true)))))) else (some false)))) else (some false)))) = some r := by rw [if_neg (show ¬ (false = true) by decide)] at H; exact H
      clear H
      have H := H1
      clear H1
      replace H := Option.bind_eq_some_iff.mp H
      obtain ⟨t311, A350, H⟩ := H
      replace H : ((laws_eqSyllableS.f kj15 t300 t311).bind fun t314 => (if t314 = true then ((laws_toInt64S.f kj15 l1).bind fun t315 => ((laws_eqInt64S.f kj15 t303 t315).bind fun t318 => (if t318 = true then ((laws_markSyllableS.f kj15 t300 1).bind fun bt319 => ((laws_markInt64S.f kj15 t303 bt319.1).bind fun bt321 => (if bt321.1 < 0 then (laws_FnExactNumberedVariation.j1 kj15 l0 l1 a2 a3 a4 t296 t297 t306 true) else ((laws_eqInt64S.f kj15 t306 t296).bind fun t323 => (if t323 = true then (laws_FnExactNumberedVariation.j1 kj15 l0 l1 a2 a3 a4 t296 t297 t306 (t307 != t297)) else (laws_FnExactNumberedVariation.j1 kj15 l0 l1 a2 a3 a4 t296 t297 t306 true)))))) else (some false)))) else (some false))) = some r := H
      have A35 := Aside0.mk A350
      clear A350
      replace H := Option.bind_eq_some_iff.mp H
      obtain ⟨t314, A360, H⟩ := H
      replace H : (if t314 = true then ((laws_toInt64S.f kj15 l1).bind fun t315 => ((laws_eqInt64S.f kj15 t303 t315).bind fun t318 => (if t318 = true then ((laws_markSyllableS.f kj15 t300 1).bind fun bt319 => ((laws_markInt64S.f kj15 t303 bt319.1).bind fun bt321 => (if bt321.1 < 0 then (laws_FnExactNumberedVariation.j1 kj15 l0 l1 a2 a3 a4 t296 t297 t306 true) else ((laws_eqInt64S.f kj15 t306 t296).bind fun t323 => (if t323 = true then (laws_FnExactNumberedVariation.j1 kj15 l0 l1 a2 a3 a4 t296 t297 t306 (t307 != t297)) else (laws_FnExactNumberedVariation.j1 kj15 l0 l1 a2 a3 a4 t296 t297 t306 true)))))) else (some false)))) else (some false)) = some r := H
      have A36 := Aside0.mk A360
      clear A360
      by_cases c37 : t314 = true
      ·subst c37
       have H1 : ((laws_toInt64S.f kj15 l1).bind fun t315 => ((laws_eqInt64S.f kj15 t303 t315).bind fun t318 => (if t318 = true then ((laws_markSyllableS.f kj15 t300 1).bind fun bt319 => ((laws_markInt64S.f kj15 t303 bt319.1).bind fun bt321 => (if bt321.1 < 0 then (laws_FnExactNumberedVariation.j1 kj15 l0 l1 a2 a3 a4 t296 t297 t306 true) else ((laws_eqInt64S.f kj15 t306 t296).bind fun t323 => (if t323 = true then (laws_FnExactNumberedVariation.j1 kj15 l0 l1 a2 a3 a4 t296 t297 t306 (t307 != t297)) else (laws_FnExactNumberedVariation.j1 kj15 l0 l1 a2 a3 a4 t296 t297 t306 true)))))) else (some false)))) = some r := by rw [if_pos rfl] at H; exact H
       clear H
       have H := H1
       clear H1
       replace H := Option.bind_eq_some_iff.mp H
       obtain ⟨t315, A380, H⟩ := H
       replace H : ((laws_eqInt64S.f kj15 t303 t315).bind fun t318 => (if t318 = true then ((laws_markSyllableS.f kj15 t300 1).bind fun bt319 => ((laws_markInt64S.f kj15 t303 bt319.1).bind fun bt321 => (if bt321.1 < 0 then (laws_FnExactNumberedVariation.j1 kj15 l0 l1 a2 a3 a4 t296 t297 t306 true) else ((laws_eqInt64S.f kj15 t306 t296).bind fun t323 => (if t323 = true then (laws_FnExactNumberedVariation.j1 kj15 l0 l1 a2 a3 a4 t296 t297 t306 (t307 != t297)) else (laws_FnExactNumberedVariation.j1 kj15 l0 l1 a2 a3 a4 t296 t297 t306 true)))))) else (some false))) = some r := H
       have A38 := Aside0.mk A380
       clear A380
       replace H := Option.bind_eq_some_iff.mp H
       obtain ⟨t318, A390, H⟩ := H
       replace H : (if t318 = true then ((laws_markSyllableS.f kj15 t300 1).bind fun bt319 => ((laws_markInt64S.f kj15 t303 bt319.1).bind fun bt321 => (if bt321.1 < 0 then (laws_FnExactNumberedVariation.j1 kj15 l0 l1 a2 a3 a4 t296 t297 t306 true) else ((laws_eqInt64S.f kj15 t306 t296).bind fun t323 => (if t323 = true then (laws_FnExactNumberedVariation.j1 kj15 l0 l1 a2 a3 a4 t296 t297 t306 (t307 != t297)) else (laws_FnExactNumberedVariation.j1 kj15 l0 l1 a2 a3 a4 t296 t297 t306 true)))))) else (some false)) = some r := H
       have A39 := Aside0.mk A390
       clear A390
       by_cases c40 : t318 = true
       ·subst c40
        have H1 : ((laws_markSyllableS.f kj15 t300 1).bind fun bt319 => ((laws_markInt64S.f kj15 t303 bt319.1).bind fun bt321 => (if bt321.1 < 0 then (laws_FnExactNumberedVariation.j1 kj15 l0 l1 a2 a3 a4 t296 t297 t306 true) else ((laws_eqInt64S.f kj15 t306 t296).bind fun t323 => (if t323 = true then (laws_FnExactNumberedVariation.j1 kj15 l0 l1 a2 a3 a4 t296 t297 t306 (t307 != t297)) else (laws_FnExactNumberedVariation.j1 kj15 l0 l1 a2 a3 a4 t296 t297 t306 true)))))) = some r := by rw [if_pos rfl] at H; exact H
        clear H
        have H := H1
        clear H1
        replace H := Option.bind_eq_some_iff.mp H
        obtain ⟨⟨t319, t320⟩, A410, H⟩ := H
        replace H : ((laws_markInt64S.f kj15 t303 t319).bind fun bt321 => (if bt321.1 < 0 then (laws_FnExactNumberedVariation.j1 kj15 l0 l1 a2 a3 a4 t296 t297 t306 true) else ((laws_eqInt64S.f kj15 t306 t296).bind fun t323 => (if t323 = true then (laws_FnExactNumberedVariation.j1 kj15 l0 l1 a2 a3 a4 t296 t297 t306 (t307 != t297)) else (laws_FnExactNumberedVariation.j1 kj15 l0 l1 a2 a3 a4 t296 t297 t306 true))))) = some r := H
        have A41 := Aside0.mk A410
        clear A410
        replace H := Option.bind_eq_some_iff.mp H
        obtain ⟨⟨t321, t322⟩, A420, H⟩ := H
        replace H : (if t321 < 0 then (laws_FnExactNumberedVariation.j1 kj15 l0 l1 a2 a3 a4 t296 t297 t306 true) else ((laws_eqInt64S.f kj15 t306 t296).bind fun t323 => (if t323 = true then (laws_FnExactNumberedVariation.j1 kj15 l0 l1 a2 a3 a4 t296 t297 t306 (t307 != t297)) else (laws_FnExactNumberedVariation.j1 kj15 l0 l1 a2 a3 a4 t296 t297 t306 true)))) = some r := H
        have A42 := Aside0.mk A420
        clear A420
        have HC43 := Aside0.mk H
        clear H
        go_upto_region 20 with (first | ((with_reducible refine gate_callee (f := 14) rfl ?_); refine goesL_ (some 66) rfl rfl Try.func14 (by kernel_rfl) rfl #[.slice A0 l0.length c0] rfl (by (try simp only [List.map_toArray, List.map_cons, List.map_nil]); first | done | rfl) ?_; (with_reducible refine (laws_toSyllableS.calls kj15 _ _ l0 t311 _ ?side1 ?side2 A35.out).mono ?_); (case side1 => exact (Kd.C_below HR0.out HB.out)); (case side2 => exact HC0.out); rintro e w44 ⟨v312, rfl, ho0, hb⟩; refine ⟨_, rfl, ?_⟩; have n0_ := Aside0.mk (Kd.R_below (by exact HO_12.out) hb); have n1_ := Aside0.mk (Kd.R_elder' (by exact HO_14.out) (Kd.R_base ho0) hb); have n2_ := Aside0.mk (Kd.R_below (by exact HO_15.out) hb); have n3_ := Aside0.mk (Kd.R_below (by exact HO_16.out) hb); have n4_ := Aside0.mk (Kd.R_lower (Kd.R_new' ho0 (Kd.R_lt (by exact HO_14.out))) (below_size (by repeat (first | exact HB.out | apply below_alloc | apply pw_below_drewN | apply below_drew1)))); have n5_ := Aside0.mk (below_step (by repeat (first | exact HB.out | apply below_alloc | apply pw_below_drewN | apply below_drew1)) hb); clear HO_12; clear HO_14; clear HO_15; clear HO_16; clear HB; have HO_12 := n0_; have HO_14 := n1_; have HO_15 := n2_; have HO_16 := n3_; have HO313 := n4_; have HB := n5_; clear n0_ n1_ n2_ n3_ n4_ n5_; (try clear hb); (try clear hb2); (try clear hk); (try clear hi); (try clear ho0); obtain ⟨Ao45, co45, eo45⟩ := Kd.R_slice HO313.out; subst eo45) | ((with_reducible refine gate_callee (f := 16) rfl ?_); refine goesL_ (some 67) rfl rfl Try.func16 (by kernel_rfl) rfl #[.slice Ao25 t300.length co25, .slice Ao45 t311.length co45] rfl (by (try simp only [List.map_toArray, List.map_cons, List.map_nil]); first | done | rfl) ?_; (with_reducible refine (laws_eqSyllableS.calls kj15 _ _ t300 _ _ t311 true _ ?side1 ?side2 ?side3 ?side4 A36.out).mono ?_); (case side1 => exact (Kd.R_reads' HO_14.out).2.2); (case side2 => exact (Kd.R_reads' HO_14.out).2.1); (case side3 => exact (Kd.R_reads' HO313.out).2.2); (case side4 => exact (Kd.R_reads' HO313.out).2.1); rintro e w46 ⟨rfl, hb⟩; refine ⟨_, rfl, ?_⟩; have n0_ := Aside0.mk (Kd.R_below (by exact HO_12.out) hb); have n1_ := Aside0.mk (Kd.R_below (by exact HO_14.out) hb); have n2_ := Aside0.mk (Kd.R_below (by exact HO_15.out) hb); have n3_ := Aside0.mk (Kd.R_below (by exact HO_16.out) hb); have n4_ := Aside0.mk (Kd.R_below (by exact HO313.out) hb); have n5_ := Aside0.mk (below_step (by repeat (first | exact HB.out | apply below_alloc | apply pw_below_drewN | apply below_drew1)) hb); clear HO_12; clear HO_14; clear HO_15; clear HO_16; clear HO313; clear HB; have HO_12 := n0_; have HO_14 := n1_; have HO_15 := n2_; have HO_16 := n3_; have HO313 := n4_; have HB := n5_; clear n0_ n1_ n2_ n3_ n4_ n5_; (try clear hb); (try clear hb2); (try clear hk); (try clear hi)) | ((with_reducible refine gate_callee (f := 15) rfl ?_); refine goesL_ (some 71) rfl rfl Try.func15 (by kernel_rfl) rfl #[.slice A1 l1.length c1] rfl (by (try simp only [List.map_toArray, List.map_cons, List.map_nil]); first | done | rfl) ?_; (with_reducible refine (laws_toInt64S.calls kj15 _ _ l1 t315 _ ?side1 ?side2 A38.out).mono ?_); (case side1 => exact (Kd.C_below HR1.out HB.out)); (case side2 => exact HC1.out); rintro e w47 ⟨v316, rfl, ho0, hb⟩; refine ⟨_, rfl, ?_⟩; have n0_ := Aside0.mk (Kd.R_elder' (by exact HO_12.out) (Kd.R_base ho0) hb); have n1_ := Aside0.mk (Kd.R_below (by exact HO_14.out) hb); have n2_ := Aside0.mk (Kd.R_elder' (by exact HO_15.out) (Kd.R_base ho0) hb); have n3_ := Aside0.mk (Kd.R_elder' (by exact HO_16.out) (Kd.R_base ho0) hb); have n4_ := Aside0.mk (Kd.R_below (by exact HO313.out) hb); have n5_ := Aside0.mk (Kd.R_lower (Kd.R_new' (Kd.R_new' (Kd.R_new' ho0 (Kd.R_lt (by exact HO_12.out))) (Kd.R_lt (by exact HO_15.out))) (Kd.R_lt (by exact HO_16.out))) (below_size (by repeat (first | exact HB.out | apply below_alloc | apply pw_below_drewN | apply below_drew1)))); have n6_ := Aside0.mk (below_step (by repeat (first | exact HB.out | apply below_alloc | apply pw_below_drewN | apply below_drew1)) hb); clear HO_12; clear HO_14; clear HO_15; clear HO_16; clear HO313; clear HB; have HO_12 := n0_; have HO_14 := n1_; have HO_15 := n2_; have HO_16 := n3_; have HO313 := n4_; have HO317 := n5_; have HB := n6_; clear n0_ n1_ n2_ n3_ n4_ n5_ n6_; (try clear hb); (try clear hb2); (try clear hk); (try clear hi); (try clear ho0); obtain ⟨Ao48, co48, eo48⟩ := Kd.R_slice HO317.out; subst eo48) | ((with_reducible refine gate_callee (f := 17) rfl ?_); refine goesL_ (some 72) rfl rfl Try.func17 (by kernel_rfl) rfl #[.slice Ao26 t303.length co26, .slice Ao48 t315.length co48] rfl (by (try simp only [List.map_toArray, List.map_cons, List.map_nil]); first | done | rfl) ?_; (with_reducible refine (laws_eqInt64S.calls kj15 _ _ t303 _ _ t315 true _ ?side1 ?side2 ?side3 ?side4 A39.out).mono ?_); (case side1 => exact (Kd.R_reads' HO_15.out).2.2); (case side2 => exact (Kd.R_reads' HO_15.out).2.1); (case side3 => exact (Kd.R_reads' HO317.out).2.2); (case side4 => exact (Kd.R_reads' HO317.out).2.1); rintro e w' ⟨rfl, ⟨nd, rfl⟩⟩; refine ⟨_, rfl, ?_⟩) | ((with_reducible refine gate_callee (f := 19) rfl ?_); refine goesL_ (some 76) rfl rfl Try.func19 (by kernel_rfl) rfl #[.slice Ao25 t300.length co25, .int .i64 1] rfl (by (try simp only [List.map_toArray, List.map_cons, List.map_nil]); first | done | rfl) ?_; (with_reducible refine (laws_markSyllableS.calls kj15 (fun k_ => some k_ = (.slice Ao25 t300.length co25 : Value).ownBlock) (.slice Ao25 t300.length co25) t300 1 t319 t320 w _ ?side1 ?side2 A41.out).mono ?_); (case side1 => repeat (first | (with_reducible first | exact HB.out | apply below_alloc | apply pw_below_drewN | apply below_drew1) | exact HB.out)); (case side2 => exact Kd.R_tight rfl HO_14.out); rintro e w49 ⟨rfl, hy0, hb, hkp⟩; refine ⟨_, rfl, ?_⟩; have n0_ := Aside0.mk (Kd.R_mono (ok' := fun k_ => some k_ ≠ (.slice Ao26 t303.length co26 : Value).ownBlock ∧ some k_ ≠ (v308 : Value).ownBlock ∧ some k_ ≠ (.slice Ao48 t315.length co48 : Value).ownBlock) (Kd.R_keptB ((Kd.R_apart' HO_12.out (Kd.R_typed HO_14.out) (by decide))) hkp (fun k_ hk_ hs_ => (hk_.2) hs_)) (fun k_ hk_ => ⟨hk_.1.1.1.1, hk_.1.1.1.2, hk_.1.1.2⟩)); have n1_ := Aside0.mk (Kd.R_reok rfl hy0 (fun k_ e_ => HO_14.out.1 k_ e_)); have n2_ := Aside0.mk (Kd.R_mono (ok' := fun k_ => some k_ ≠ (v298 : Value).ownBlock ∧ some k_ ≠ (v308 : Value).ownBlock ∧ some k_ ≠ (.slice Ao48 t315.length co48 : Value).ownBlock) (Kd.R_keptB ((Kd.R_apart' HO_15.out (Kd.R_typed HO_14.out) (by decide))) hkp (fun k_ hk_ hs_ => (hk_.2) hs_)) (fun k_ hk_ => ⟨hk_.1.1.1.1, hk_.1.1.1.2, hk_.1.1.2⟩)); have n3_ := Aside0.mk (Kd.R_mono (ok' := fun k_ => some k_ ≠ (v298 : Value).ownBlock ∧ some k_ ≠ (.slice Ao26 t303.length co26 : Value).ownBlock ∧ some k_ ≠ (.slice Ao48 t315.length co48 : Value).ownBlock) (Kd.R_keptB ((Kd.R_apart' HO_16.out (Kd.R_typed HO_14.out) (by decide))) hkp (fun k_ hk_ hs_ => (hk_.2) hs_)) (fun k_ hk_ => ⟨hk_.1.1.1.1, hk_.1.1.1.2, hk_.1.1.2⟩)); have n4_ := Aside0.mk (Kd.R_mono (ok' := fun k_ => some k_ ≠ (.slice Ao25 t300.length co25 : Value).ownBlock) (Kd.R_keptB (HO313.out) hkp (fun k_ hk_ hs_ => (hk_.2) hs_)) (fun k_ hk_ => hk_.1.2)); have n5_ := Aside0.mk (Kd.R_mono (ok' := fun k_ => some k_ ≠ (v298 : Value).ownBlock ∧ some k_ ≠ (.slice Ao26 t303.length co26 : Value).ownBlock ∧ some k_ ≠ (v308 : Value).ownBlock) (Kd.R_keptB ((Kd.R_apart' HO317.out (Kd.R_typed HO_14.out) (by decide))) hkp (fun k_ hk_ hs_ => (hk_.2) hs_)) (fun k_ hk_ => ⟨hk_.1.1.1.1.2, hk_.1.1.1.2, hk_.1.1.2⟩)); have n6_ := Aside0.mk (hb); clear HO_12; clear HO_14; clear HO_15; clear HO_16; clear HO313; clear HO317; clear HB; have HO_12 := n0_; have HO_14 := n1_; have HO_15 := n2_; have HO_16 := n3_; have HO313 := n4_; have HO317 := n5_; have HB := n6_; clear n0_ n1_ n2_ n3_ n4_ n5_ n6_; (try clear hb); (try clear hkp); (try clear hy0)) | ((with_reducible refine gate_callee (f := 20) rfl ?_); refine goesL_ (some 79) rfl rfl Try.func20 (by kernel_rfl) rfl #[.slice Ao26 t303.length co26, .int .i64 t319] rfl (by (try simp only [List.map_toArray, List.map_cons, List.map_nil]); first | done | rfl) ?_; (with_reducible refine (laws_markInt64S.calls kj15 (fun k_ => some k_ = (.slice Ao26 t303.length co26 : Value).ownBlock) (.slice Ao26 t303.length co26) t303 t319 t321 t322 w _ ?side1 ?side2 A42.out).mono ?_); (case side1 => repeat (first | (with_reducible first | exact HB.out | apply below_alloc | apply pw_below_drewN | apply below_drew1) | exact HB.out)); (case side2 => exact Kd.R_tight rfl HO_15.out); rintro e w50 ⟨rfl, hy0, hb, hkp⟩; refine ⟨_, rfl, ?_⟩; have n0_ := Aside0.mk (Kd.R_mono (ok' := fun k_ => some k_ ≠ (.slice Ao26 t303.length co26 : Value).ownBlock ∧ some k_ ≠ (v308 : Value).ownBlock ∧ some k_ ≠ (.slice Ao48 t315.length co48 : Value).ownBlock) (Kd.R_keptB (HO_12.out) hkp (fun k_ hk_ hs_ => (hk_.1) hs_)) (fun k_ hk_ => ⟨hk_.1.1, hk_.1.2.1, hk_.1.2.2⟩)); have n1_ := Aside0.mk (Kd.R_mono (ok' := fun k_ => some k_ ≠ (.slice Ao45 t311.length co45 : Value).ownBlock) (Kd.R_keptB ((Kd.R_apart' HO_14.out (Kd.R_typed HO_15.out) (by decide))) hkp (fun k_ hk_ hs_ => (hk_.2) hs_)) (fun k_ hk_ => hk_.1.1.2)); have n2_ := Aside0.mk (Kd.R_reok rfl hy0 (fun k_ e_ => HO_15.out.1 k_ e_)); have n3_ := Aside0.mk (Kd.R_mono (ok' := fun k_ => some k_ ≠ (v298 : Value).ownBlock ∧ some k_ ≠ (.slice Ao26 t303.length co26 : Value).ownBlock ∧ some k_ ≠ (.slice Ao48 t315.length co48 : Value).ownBlock) (Kd.R_keptB (HO_16.out) hkp (fun k_ hk_ hs_ => (hk_.2.1) hs_)) (fun k_ hk_ => ⟨hk_.1.1, hk_.1.2.1, hk_.1.2.2⟩)); have n4_ := Aside0.mk (Kd.R_mono (ok' := fun k_ => some k_ ≠ (.slice Ao25 t300.length co25 : Value).ownBlock) (Kd.R_keptB ((Kd.R_apart' HO313.out (Kd.R_typed HO_15.out) (by decide))) hkp (fun k_ hk_ hs_ => (hk_.2) hs_)) (fun k_ hk_ => hk_.1.1)); have n5_ := Aside0.mk (Kd.R_mono (ok' := fun k_ => some k_ ≠ (v298 : Value).ownBlock ∧ some k_ ≠ (.slice Ao26 t303.length co26 : Value).ownBlock ∧ some k_ ≠ (v308 : Value).ownBlock) (Kd.R_keptB (HO317.out) hkp (fun k_ hk_ hs_ => (hk_.2.1) hs_)) (fun k_ hk_ => ⟨hk_.1.1, hk_.1.2.1, hk_.1.2.2⟩)); have n6_ := Aside0.mk (hb); clear HO_12; clear HO_14; clear HO_15; clear HO_16; clear HO313; clear HO317; clear HB; have HO_12 := n0_; have HO_14 := n1_; have HO_15 := n2_; have HO_16 := n3_; have HO313 := n4_; have HO317 := n5_; have HB := n6_; clear n0_ n1_ n2_ n3_ n4_ n5_ n6_; (try clear hb); (try clear hkp); (try clear hy0)))
        (try simp only [Act.put, List.setIfInBounds_toArray, List.set_cons_zero, List.set_cons_succ])
        go_cut [92] (fun v92 wc => ∃ (kq : Nat) (x92_42 : Bool), v92 = .bool x92_42 ∧ Aside0 (laws_FnExactNumberedVariation.j1 kq l0 l1 a2 a3 a4 t296 t297 t306 x92_42 = some r) ∧ Aside0 (kq ≤ kj15) ∧ Aside0 (Kd.R (Kd.int .i64) 2 wc w.heap.size (fun k_ => some k_ ≠ (v308 : Value).ownBlock) v298 t296) ∧ Aside0 (Kd.R (Kd.int .i64) 2 wc w.heap.size (fun k_ => some k_ ≠ (v298 : Value).ownBlock) v308 t306) ∧ Aside0 (Below w.heap.size w wc))
        case first =>
         have H := HC43.out
         clear HC43
         by_cases c51 : t321 < 0
         ·rw [if_pos c51] at H
          have c51b0 : decide (t321 < 0) = true := decide_eq_true c51
          clear c51
          (first | rw [c51b0] | (simp only [i64_w, i32_w]; rw [c51b0]) | skip)
          have H' := Aside0.mk H
          clear H
          go_wp2
          go_meet
          case rel => exact ⟨_, (true), (by first | rfl | (simp; done) | (simp [*]; done)), H', ⟨by have := HJ15.out; first | omega | exact Nat.le_refl _⟩, ⟨by exact Kd.R_mono HO_12.out (fun _ hk => hk.2.1)⟩, ⟨by exact Kd.R_mono HO_16.out (fun _ hk => hk.1)⟩, ⟨by repeat (first | exact HB.out | apply below_alloc | apply pw_below_drewN | apply below_drew1)⟩⟩
         ·rw [if_neg c51] at H
          have c51b0 : decide (t321 < 0) = false := decide_eq_false c51
          clear c51
          (first | rw [c51b0] | (simp only [i64_w, i32_w]; rw [c51b0]) | skip)
          replace H := Option.bind_eq_some_iff.mp H
          obtain ⟨t323, A520, H⟩ := H
          replace H : (if t323 = true then (laws_FnExactNumberedVariation.j1 kj15 l0 l1 a2 a3 a4 t296 t297 t306 (t307 != t297)) else (laws_FnExactNumberedVariation.j1 kj15 l0 l1 a2 a3 a4 t296 t297 t306 true)) = some r := H
          have A52 := Aside0.mk A520
          clear A520
          by_cases c53 : t323 = true
          ·subst c53
           have H1 : (laws_FnExactNumberedVariation.j1 kj15 l0 l1 a2 a3 a4 t296 t297 t306 (t307 != t297)) = some r := by rw [if_pos rfl] at H; exact H
           clear H
           have H := H1
           clear H1
           have H' := Aside0.mk H
           clear H
           obtain ⟨Ao54, co54, eo54⟩ := Kd.R_slice HO_16.out
           subst eo54
           obtain ⟨Ao55, co55, eo55⟩ := Kd.R_slice HO_12.out
           subst eo55
           go_wp2_with (first | (go_at_call 17; (with_reducible refine (laws_eqInt64S.calls kj15 _ _ t306 _ _ t296 true _ ?side1 ?side2 ?side3 ?side4 A52.out).mono ?_); (case side1 => exact (Kd.R_reads' HO_16.out).2.2); (case side2 => exact (Kd.R_reads' HO_16.out).2.1); (case side3 => exact (Kd.R_reads' HO_12.out).2.2); (case side4 => exact (Kd.R_reads' HO_12.out).2.1); rintro e w' ⟨rfl, ⟨nd, rfl⟩⟩))
           go_meet
           case rel => exact ⟨_, ((t307 != t297)), (by first | rfl | (simp; done) | (simp [*]; done)), H', ⟨by have := HJ15.out; first | omega | exact Nat.le_refl _⟩, ⟨by exact Kd.R_mono HO_12.out (fun _ hk => hk.2.1)⟩, ⟨by exact Kd.R_mono HO_16.out (fun _ hk => hk.1)⟩, ⟨by repeat (first | exact HB.out | apply below_alloc | apply pw_below_drewN | apply below_drew1)⟩⟩
          ·replace c53 := Bool.eq_false_iff.mpr c53
           subst c53
           have H1 : (laws_FnExactNumberedVariation.j1 kj15 l0 l1 a2 a3 a4 t296 t297 t306 true) = some r := by rw [if_neg (show ¬ (false = true) by decide)] at H; exact H
           clear H
           have H := H1
           clear H1
           have H' := Aside0.mk H
           clear H
           obtain ⟨Ao56, co56, eo56⟩ := Kd.R_slice HO_16.out
           subst eo56
           obtain ⟨Ao57, co57, eo57⟩ := Kd.R_slice HO_12.out
           subst eo57
           go_wp2_with (first | (go_at_call 17; (with_reducible refine (laws_eqInt64S.calls kj15 _ _ t306 _ _ t296 false _ ?side1 ?side2 ?side3 ?side4 A52.out).mono ?_); (case side1 => exact (Kd.R_reads' HO_16.out).2.2); (case side2 => exact (Kd.R_reads' HO_16.out).2.1); (case side3 => exact (Kd.R_reads' HO_12.out).2.2); (case side4 => exact (Kd.R_reads' HO_12.out).2.1); rintro e w' ⟨rfl, ⟨nd, rfl⟩⟩))
           go_meet
           case rel => exact ⟨_, (true), (by first | rfl | (simp; done) | (simp [*]; done)), H', ⟨by have := HJ15.out; first | omega | exact Nat.le_refl _⟩, ⟨by exact Kd.R_mono HO_12.out (fun _ hk => hk.2.1)⟩, ⟨by exact Kd.R_mono HO_16.out (fun _ hk => hk.1)⟩, ⟨by repeat (first | exact HB.out | apply below_alloc | apply pw_below_drewN | apply below_drew1)⟩⟩
        case rest =>
         clear HC43
         try clear c1
         try clear c2
         try clear p2
         try clear c3
         try clear c4
         try clear c5
         try clear c6
         try clear c6b0
         try clear c6b1
         try clear c8
         try clear c8b0
         try clear c9
         try clear c12
         try clear c14
         try clear c15
         try clear c16
         try clear c17
         try clear c18
         try clear c19
         try clear c20
         try clear c29
         try clear c34
         try clear c37
         try clear c40
         try clear c51
         try clear c51b0
         try clear c53
         try clear p2
         obtain ⟨kq, x92_42, rfl, HA, HJ42, HO_12, HO_16, HB⟩ := hcut
         cases kq with
         | zero => exact absurd HA.out (by simp [laws_FnExactNumberedVariation.j1])
         | succ kj42 =>
          have H := HA.out
          clear HA
          simp only [laws_FnExactNumberedVariation.j1] at H
          by_cases c58 : x92_42 = true
          ·subst c58
           have H1 : (some false) = some r := by rw [if_pos rfl] at H; exact H
           clear H
           have H := H1
           clear H1
           obtain rfl := Option.some.inj H
           go_wp2
           go_ret
           exact ⟨by first | rfl | (simp [errW_none, errW_some] <;> rfl) | (simp [*, errW_none, errW_some] <;> rfl), by repeat (first | exact HB.out | apply below_alloc | apply pw_below_drewN | apply below_drew1)⟩
          ·replace c58 := Bool.eq_false_iff.mpr c58
           subst c58
           have H1 : ((laws_markInt64S.f kj42 t306 1).bind fun bt324 => ((laws_heldInt64S.f kj42 bt324.2 1).bind fun t326 => (if t326 < 0 then (some false) else (if t326 = bt324.1 then ((laws_toSyllableS.f kj42 l0).bind fun t327 => ((laws_toInt64S.f kj42 l1).bind fun t330 => ((impl_NumberedVariation.f kj42 t327 t330 a2 a3 a4).bind fun bt333 => ((laws_eqInt64S.f kj42 bt333.1 t296).bind fun t337 => (if t337 = true then (laws_FnExactNumberedVariation.j2 kj42 bt324.2 bt324.1 (bt333.2 != t297)) else (laws_FnExactNumberedVariation.j2 kj42 bt324.2 bt324.1 true)))))) else (some false))))) = some r := by rw [if_neg (show ¬ (false = true) by decide)] at H; exact H
           clear H
           have H := H1
           clear H1
           replace H := Option.bind_eq_some_iff.mp H
           obtain ⟨⟨t324, t325⟩, A590, H⟩ := H
           replace H : ((laws_heldInt64S.f kj42 t325 1).bind fun t326 => (if t326 < 0 then (some false) else (if t326 = t324 then ((laws_toSyllableS.f kj42 l0).bind fun t327 => ((laws_toInt64S.f kj42 l1).bind fun t330 => ((impl_NumberedVariation.f kj42 t327 t330 a2 a3 a4).bind fun bt333 => ((laws_eqInt64S.f kj42 bt333.1 t296).bind fun t337 => (if t337 = true then (laws_FnExactNumberedVariation.j2 kj42 t325 t324 (bt333.2 != t297)) else (laws_FnExactNumberedVariation.j2 kj42 t325 t324 true)))))) else (some false)))) = some r := H
           have A59 := Aside0.mk A590
           clear A590
           replace H := Option.bind_eq_some_iff.mp H
           obtain ⟨t326, A600, H⟩ := H
           replace H : (if t326 < 0 then (some false) else (if t326 = t324 then ((laws_toSyllableS.f kj42 l0).bind fun t327 => ((laws_toInt64S.f kj42 l1).bind fun t330 => ((impl_NumberedVariation.f kj42 t327 t330 a2 a3 a4).bind fun bt333 => ((laws_eqInt64S.f kj42 bt333.1 t296).bind fun t337 => (if t337 = true then (laws_FnExactNumberedVariation.j2 kj42 t325 t324 (bt333.2 != t297)) else (laws_FnExactNumberedVariation.j2 kj42 t325 t324 true)))))) else (some false))) = some r := H
           have A60 := Aside0.mk A600
           clear A600
           by_cases c61 : t326 < 0
           ·rw [if_pos c61] at H
            have c61b0 : decide (t326 < 0) = true := decide_eq_true c61
            clear c61
            obtain rfl := Option.some.inj H
            obtain ⟨Ao62, co62, eo62⟩ := Kd.R_slice HO_16.out
            subst eo62
            go_wp2_with (first | ((with_reducible refine gate_callee (f := 20) rfl ?_); refine goesL_ (some 95) rfl rfl Try.func20 (by kernel_rfl) rfl #[.slice Ao62 t306.length co62, .int .i64 1] rfl (by (try simp only [List.map_toArray, List.map_cons, List.map_nil]); first | done | rfl) ?_; (with_reducible refine (laws_markInt64S.calls kj42 (fun k_ => some k_ = (.slice Ao62 t306.length co62 : Value).ownBlock) (.slice Ao62 t306.length co62) t306 1 t324 t325 w _ ?side1 ?side2 A59.out).mono ?_); (case side1 => repeat (first | (with_reducible first | exact HB.out | apply below_alloc | apply pw_below_drewN | apply below_drew1) | exact HB.out)); (case side2 => exact Kd.R_tight rfl HO_16.out); rintro e w63 ⟨rfl, hy0, hb, hkp⟩; refine ⟨_, rfl, ?_⟩; have n0_ := Aside0.mk (Kd.R_mono (ok' := fun k_ => some k_ ≠ (.slice Ao62 t306.length co62 : Value).ownBlock) (Kd.R_keptB (HO_12.out) hkp (fun k_ hk_ hs_ => (hk_) hs_)) (fun k_ hk_ => hk_.1)); have n1_ := Aside0.mk (Kd.R_reok rfl hy0 (fun k_ e_ => HO_16.out.1 k_ e_)); have n2_ := Aside0.mk (hb); clear HO_12; clear HO_16; clear HB; have HO_12 := n0_; have HO_16 := n1_; have HB := n2_; clear n0_ n1_ n2_; (try clear hb); (try clear hkp); (try clear hy0)) | ((with_reducible refine gate_callee (f := 21) rfl ?_); refine goesL_ (some 98) rfl rfl Try.func21 (by kernel_rfl) rfl #[.slice Ao62 t325.length co62, .int .i64 1] rfl (by (try simp only [List.map_toArray, List.map_cons, List.map_nil]); first | done | (rw [show t325.length = t306.length from (Kd.R_reads' HO_16.out).1.symm] <;> rfl) | rfl | (simp only [List.length_drop, List.length_take]; rfl)) ?_; (with_reducible refine (laws_heldInt64S.calls kj42 _ _ t325 1 t326 _ ?side1 ?side2 A60.out).mono ?_); (case side1 => exact (Kd.R_reads' HO_16.out).2.2); (case side2 => rw [show t325.length = t306.length from (Kd.R_reads' HO_16.out).1.symm]; exact (Kd.R_reads' HO_16.out).2.1); rintro e w' ⟨rfl, ⟨nd, rfl⟩⟩; refine ⟨_, rfl, ?_⟩))
            go_ret
            exact ⟨by first | rfl | (simp [errW_none, errW_some] <;> rfl) | (simp [*, errW_none, errW_some] <;> rfl), by repeat (first | exact HB.out | apply below_alloc | apply pw_below_drewN | apply below_drew1)⟩
           ·rw [if_neg c61] at H
            have c61b0 : decide (t326 < 0) = false := decide_eq_false c61
            clear c61
            by_cases c64 : t326 = t324
            ·rw [if_pos c64] at H
             have c64b0 : (t326 == t324) = true := beq_iff_eq.mpr c64
             have c64b1 : (t326 != t324) = false := bne_eq_false_iff_eq.mpr c64
             clear c64
             replace H := Option.bind_eq_some_iff.mp H
             obtain ⟨t327, A650, H⟩ := H
             replace H : ((laws_toInt64S.f kj42 l1).bind fun t330 => ((impl_NumberedVariation.f kj42 t327 t330 a2 a3 a4).bind fun bt333 => ((laws_eqInt64S.f kj42 bt333.1 t296).bind fun t337 => (if t337 = true then (laws_FnExactNumberedVariation.j2 kj42 t325 t324 (bt333.2 != t297)) else (laws_FnExactNumberedVariation.j2 kj42 t325 t324 true))))) = some r := H
             have A65 := Aside0.mk A650
             clear A650
             replace H := Option.bind_eq_some_iff.mp H
             obtain ⟨t330, A660, H⟩ := H
             replace H : ((impl_NumberedVariation.f kj42 t327 t330 a2 a3 a4).bind fun bt333 => ((laws_eqInt64S.f kj42 bt333.1 t296).bind fun t337 => (if t337 = true then (laws_FnExactNumberedVariation.j2 kj42 t325 t324 (bt333.2 != t297)) else (laws_FnExactNumberedVariation.j2 kj42 t325 t324 true)))) = some r := H
             have A66 := Aside0.mk A660
             clear A660
             replace H := Option.bind_eq_some_iff.mp H
             obtain ⟨⟨t333, t334⟩, A670, H⟩ := H
             replace H : ((laws_eqInt64S.f kj42 t333 t296).bind fun t337 => (if t337 = true then (laws_FnExactNumberedVariation.j2 kj42 t325 t324 (t334 != t297)) else (laws_FnExactNumberedVariation.j2 kj42 t325 t324 true))) = some r := H
             have A67 := Aside0.mk A670
             clear A670
             have HC68 := Aside0.mk H
             clear H
             obtain ⟨Ao69, co69, eo69⟩ := Kd.R_slice HO_16.out
             subst eo69
             go_upto_region 31 with (first | ((with_reducible refine gate_callee (f := 20) rfl ?_); refine goesL_ (some 95) rfl rfl Try.func20 (by kernel_rfl) rfl #[.slice Ao69 t306.length co69, .int .i64 1] rfl (by (try simp only [List.map_toArray, List.map_cons, List.map_nil]); first | done | rfl) ?_; (with_reducible refine (laws_markInt64S.calls kj42 (fun k_ => some k_ = (.slice Ao69 t306.length co69 : Value).ownBlock) (.slice Ao69 t306.length co69) t306 1 t324 t325 w _ ?side1 ?side2 A59.out).mono ?_); (case side1 => repeat (first | (with_reducible first | exact HB.out | apply below_alloc | apply pw_below_drewN | apply below_drew1) | exact HB.out)); (case side2 => exact Kd.R_tight rfl HO_16.out); rintro e w70 ⟨rfl, hy0, hb, hkp⟩; refine ⟨_, rfl, ?_⟩; have n0_ := Aside0.mk (Kd.R_mono (ok' := fun k_ => some k_ ≠ (.slice Ao69 t306.length co69 : Value).ownBlock) (Kd.R_keptB (HO_12.out) hkp (fun k_ hk_ hs_ => (hk_) hs_)) (fun k_ hk_ => hk_.1)); have n1_ := Aside0.mk (Kd.R_reok rfl hy0 (fun k_ e_ => HO_16.out.1 k_ e_)); have n2_ := Aside0.mk (hb); clear HO_12; clear HO_16; clear HB; have HO_12 := n0_; have HO_16 := n1_; have HB := n2_; clear n0_ n1_ n2_; (try clear hb); (try clear hkp); (try clear hy0)) | ((with_reducible refine gate_callee (f := 21) rfl ?_); refine goesL_ (some 98) rfl rfl Try.func21 (by kernel_rfl) rfl #[.slice Ao69 t325.length co69, .int .i64 1] rfl (by (try simp only [List.map_toArray, List.map_cons, List.map_nil]); first | done | (rw [show t325.length = t306.length from (Kd.R_reads' HO_16.out).1.symm] <;> rfl) | rfl | (simp only [List.length_drop, List.length_take]; rfl)) ?_; (with_reducible refine (laws_heldInt64S.calls kj42 _ _ t325 1 t326 _ ?side1 ?side2 A60.out).mono ?_); (case side1 => exact (Kd.R_reads' HO_16.out).2.2); (case side2 => rw [show t325.length = t306.length from (Kd.R_reads' HO_16.out).1.symm]; exact (Kd.R_reads' HO_16.out).2.1); rintro e w' ⟨rfl, ⟨nd, rfl⟩⟩; refine ⟨_, rfl, ?_⟩) | ((with_reducible refine gate_callee (f := 14) rfl ?_); refine goesL_ (some 106) rfl rfl Try.func14 (by kernel_rfl) rfl #[.slice A0 l0.length c0] rfl (by (try simp only [List.map_toArray, List.map_cons, List.map_nil]); first | done | rfl) ?_; (with_reducible refine (laws_toSyllableS.calls kj42 _ _ l0 t327 _ ?side1 ?side2 A65.out).mono ?_); (case side1 => repeat (first | exact (Kd.C_below HR0.out (by repeat (first | exact HB.out | apply below_alloc | apply pw_below_drewN | apply below_drew1))))); (case side2 => exact HC0.out); rintro e w71 ⟨v328, rfl, ho0, hb⟩; refine ⟨_, rfl, ?_⟩; have n0_ := Aside0.mk (Kd.R_below (by exact HO_12.out) hb); have n1_ := Aside0.mk (Kd.R_below (by exact HO_16.out) hb); have n2_ := Aside0.mk (Kd.R_lower ho0 (below_size (by repeat (first | exact HB.out | apply below_alloc | apply pw_below_drewN | apply below_drew1)))); have n3_ := Aside0.mk (below_step (by repeat (first | exact HB.out | apply below_alloc | apply pw_below_drewN | apply below_drew1)) hb); clear HO_12; clear HO_16; clear HB; have HO_12 := n0_; have HO_16 := n1_; have HO329 := n2_; have HB := n3_; clear n0_ n1_ n2_ n3_; (try clear hb); (try clear hb2); (try clear hk); (try clear hi); (try clear ho0)) | ((with_reducible refine gate_callee (f := 15) rfl ?_); refine goesL_ (some 108) rfl rfl Try.func15 (by kernel_rfl) rfl #[.slice A1 l1.length c1] rfl (by (try simp only [List.map_toArray, List.map_cons, List.map_nil]); first | done | rfl) ?_; (with_reducible refine (laws_toInt64S.calls kj42 _ _ l1 t330 _ ?side1 ?side2 A66.out).mono ?_); (case side1 => exact (Kd.C_below HR1.out HB.out)); (case side2 => exact HC1.out); rintro e w72 ⟨v331, rfl, ho0, hb⟩; refine ⟨_, rfl, ?_⟩; have n0_ := Aside0.mk (Kd.R_elder' (by exact HO_12.out) (Kd.R_base ho0) hb); have n1_ := Aside0.mk (Kd.R_elder' (by exact HO_16.out) (Kd.R_base ho0) hb); have n2_ := Aside0.mk (Kd.R_below (by exact HO329.out) hb); have n3_ := Aside0.mk (Kd.R_lower (Kd.R_new' (Kd.R_new' ho0 (Kd.R_lt (by exact HO_12.out))) (Kd.R_lt (by exact HO_16.out))) (below_size (by repeat (first | exact HB.out | apply below_alloc | apply pw_below_drewN | apply below_drew1)))); have n4_ := Aside0.mk (below_step (by repeat (first | exact HB.out | apply below_alloc | apply pw_below_drewN | apply below_drew1)) hb); clear HO_12; clear HO_16; clear HO329; clear HB; have HO_12 := n0_; have HO_16 := n1_; have HO329 := n2_; have HO332 := n3_; have HB := n4_; clear n0_ n1_ n2_ n3_ n4_; (try clear hb); (try clear hb2); (try clear hk); (try clear hi); (try clear ho0); obtain ⟨Ao73, co73, eo73⟩ := Kd.R_slice HO329.out; subst eo73; obtain ⟨Ao74, co74, eo74⟩ := Kd.R_slice HO332.out; subst eo74) | ((with_reducible refine gate_callee (f := 9) rfl ?_); refine goesL_ (some 112) rfl rfl Try.func9 (by kernel_rfl) rfl #[.slice Ao73 t327.length co73, .slice Ao74 t330.length co74, .int .i64 a2, .int .i64 a3, .int .i64 a4] rfl (by (try simp only [List.map_toArray, List.map_cons, List.map_nil]); first | done | rfl) ?_; (with_reducible refine (impl_NumberedVariation.calls kj42 _ _ t327 _ _ t330 a2 a3 a4 t333 t334 _ ?side1 ?side2 ?side3 ?side4 A67.out).mono ?_); (case side1 => exact (Kd.R_reads' HO329.out).2.2); (case side2 => exact (Kd.R_reads' HO329.out).2.1); (case side3 => exact (Kd.R_reads' HO332.out).2.2); (case side4 => exact (Kd.R_reads' HO332.out).2.1); rintro e w75 ⟨v335, rfl, ho0, hb⟩; refine ⟨_, rfl, ?_⟩; have n0_ := Aside0.mk (Kd.R_elder' (by exact HO_12.out) (Kd.R_base ho0) hb); have n1_ := Aside0.mk (Kd.R_elder' (by exact HO_16.out) (Kd.R_base ho0) hb); have n2_ := Aside0.mk (Kd.R_below (by exact HO329.out) hb); have n3_ := Aside0.mk (Kd.R_elder' (by exact HO332.out) (Kd.R_base ho0) hb); have n4_ := Aside0.mk (Kd.R_lower (Kd.R_new' (Kd.R_new' (Kd.R_new' ho0 (Kd.R_lt (by exact HO_12.out))) (Kd.R_lt (by exact HO_16.out))) (Kd.R_lt (by exact HO332.out))) (below_size (by repeat (first | exact HB.out | apply below_alloc | apply pw_below_drewN | apply below_drew1)))); have n5_ := Aside0.mk (below_step (by repeat (first | exact HB.out | apply below_alloc | apply pw_below_drewN | apply below_drew1)) hb); clear HO_12; clear HO_16; clear HO329; clear HO332; clear HB; have HO_12 := n0_; have HO_16 := n1_; have HO329 := n2_; have HO332 := n3_; have HO336 := n4_; have HB := n5_; clear n0_ n1_ n2_ n3_ n4_ n5_; (try clear hb); (try clear hb2); (try clear hk); (try clear hi); (try clear ho0)))
             (try simp only [Act.put, List.setIfInBounds_toArray, List.set_cons_zero, List.set_cons_succ])
             go_cut [123] (fun v123 wc => ∃ (kq : Nat) (x123_67 : Bool), v123 = .bool x123_67 ∧ Aside0 (laws_FnExactNumberedVariation.j2 kq t325 t324 x123_67 = some r) ∧ Aside0 (kq ≤ kj42) ∧ Aside0 (Kd.R (Kd.int .i64) 2 wc w.heap.size (fun _ => True) (.slice Ao69 t306.length co69) t325) ∧ Aside0 (Below w.heap.size w wc))
             case first =>
              have H := HC68.out
              clear HC68
              replace H := Option.bind_eq_some_iff.mp H
              obtain ⟨t337, A760, H⟩ := H
              replace H : (if t337 = true then (laws_FnExactNumberedVariation.j2 kj42 t325 t324 (t334 != t297)) else (laws_FnExactNumberedVariation.j2 kj42 t325 t324 true)) = some r := H
              have A76 := Aside0.mk A760
              clear A760
              by_cases c77 : t337 = true
              ·subst c77
               have H1 : (laws_FnExactNumberedVariation.j2 kj42 t325 t324 (t334 != t297)) = some r := by rw [if_pos rfl] at H; exact H
               clear H
               have H := H1
               clear H1
               have H' := Aside0.mk H
               clear H
               obtain ⟨Ao78, co78, eo78⟩ := Kd.R_slice HO336.out
               subst eo78
               obtain ⟨Ao79, co79, eo79⟩ := Kd.R_slice HO_12.out
               subst eo79
               go_wp2_with (first | ((with_reducible refine gate_callee (f := 17) rfl ?_); refine goesL_ (some 117) rfl rfl Try.func17 (by kernel_rfl) rfl #[.slice Ao78 t333.length co78, .slice Ao79 t296.length co79] rfl (by (try simp only [List.map_toArray, List.map_cons, List.map_nil]); first | done | rfl) ?_; (with_reducible refine (laws_eqInt64S.calls kj42 _ _ t333 _ _ t296 true _ ?side1 ?side2 ?side3 ?side4 A76.out).mono ?_); (case side1 => exact (Kd.R_reads' HO336.out).2.2); (case side2 => exact (Kd.R_reads' HO336.out).2.1); (case side3 => exact (Kd.R_reads' HO_12.out).2.2); (case side4 => exact (Kd.R_reads' HO_12.out).2.1); rintro e w' ⟨rfl, ⟨nd, rfl⟩⟩; refine ⟨_, rfl, ?_⟩))
               go_meet
               case rel => exact ⟨_, ((t334 != t297)), (by first | rfl | (simp; done) | (simp [*]; done)), H', ⟨by have := HJ15.out; have := HJ42.out; first | omega | exact Nat.le_refl _⟩, ⟨by exact Kd.R_mono HO_16.out (fun _ hk => trivial)⟩, ⟨by repeat (first | exact HB.out | apply below_alloc | apply pw_below_drewN | apply below_drew1)⟩⟩
              ·replace c77 := Bool.eq_false_iff.mpr c77
               subst c77
               have H1 : (laws_FnExactNumberedVariation.j2 kj42 t325 t324 true) = some r := by rw [if_neg (show ¬ (false = true) by decide)] at H; exact H
               clear H
               have H := H1
               clear H1
               have H' := Aside0.mk H
               clear H
               obtain ⟨Ao80, co80, eo80⟩ := Kd.R_slice HO336.out
               subst eo80
               obtain ⟨Ao81, co81, eo81⟩ := Kd.R_slice HO_12.out
               subst eo81
               go_wp2_with (first | ((with_reducible refine gate_callee (f := 17) rfl ?_); refine goesL_ (some 117) rfl rfl Try.func17 (by kernel_rfl) rfl #[.slice Ao80 t333.length co80, .slice Ao81 t296.length co81] rfl (by (try simp only [List.map_toArray, List.map_cons, List.map_nil]); first | done | rfl) ?_; (with_reducible refine (laws_eqInt64S.calls kj42 _ _ t333 _ _ t296 false _ ?side1 ?side2 ?side3 ?side4 A76.out).mono ?_); (case side1 => exact (Kd.R_reads' HO336.out).2.2); (case side2 => exact (Kd.R_reads' HO336.out).2.1); (case side3 => exact (Kd.R_reads' HO_12.out).2.2); (case side4 => exact (Kd.R_reads' HO_12.out).2.1); rintro e w' ⟨rfl, ⟨nd, rfl⟩⟩; refine ⟨_, rfl, ?_⟩))
               go_meet
               case rel => exact ⟨_, (true), (by first | rfl | (simp; done) | (simp [*]; done)), H', ⟨by have := HJ15.out; have := HJ42.out; first | omega | exact Nat.le_refl _⟩, ⟨by exact Kd.R_mono HO_16.out (fun _ hk => trivial)⟩, ⟨by repeat (first | exact HB.out | apply below_alloc | apply pw_below_drewN | apply below_drew1)⟩⟩
             case rest =>
              clear HC68
              try clear c1
              try clear c2
              try clear p2
              try clear c3
              try clear c4
              try clear c5
              try clear c6
              try clear c6b0
              try clear c6b1
              try clear c7
              try clear c8
              try clear c8b0
              try clear c9
              try clear c12
              try clear c14
              try clear c15
              try clear c16
              try clear c17
              try clear c18
              try clear c19
              try clear c20
              try clear c21
              try clear c29
              try clear c34
              try clear c37
              try clear c40
              try clear c51
              try clear c51b0
              try clear c53
              try clear c58
              try clear c61
              try clear c61b0
              try clear c64
              try clear c64b0
              try clear c64b1
              try clear c77
              try clear p2
              obtain ⟨kq, x123_67, rfl, HA, HJ67, HO_16, HB⟩ := hcut
              have hl16_67 := (Kd.R_reads' HO_16.out).1
              rw [hl16_67] at HO_16
              (try simp only [hl16_67])
              cases kq with
              | zero => exact absurd HA.out (by simp [laws_FnExactNumberedVariation.j2])
              | succ kj67 =>
               have H := HA.out
               clear HA
               simp only [laws_FnExactNumberedVariation.j2] at H
               by_cases c82 : x123_67 = true
               ·subst c82
                have H1 : (some false) = some r := by rw [if_pos rfl] at H; exact H
                clear H
                have H := H1
                clear H1
                obtain rfl := Option.some.inj H
                go_wp2
                go_ret
                exact ⟨by first | rfl | (simp [errW_none, errW_some] <;> rfl) | (simp [*, errW_none, errW_some] <;> rfl), by repeat (first | exact HB.out | apply below_alloc | apply pw_below_drewN | apply below_drew1)⟩
               ·replace c82 := Bool.eq_false_iff.mpr c82
                subst c82
                have H1 : ((laws_heldInt64S.f kj67 t325 1).bind fun t338 => (if t338 < 0 then (some false) else (if t338 = t324 then (some true) else (some false)))) = some r := by rw [if_neg (show ¬ (false = true) by decide)] at H; exact H
                clear H
                have H := H1
                clear H1
                replace H := Option.bind_eq_some_iff.mp H
                obtain ⟨t338, A830, H⟩ := H
                replace H : (if t338 < 0 then (some false) else (if t338 = t324 then (some true) else (some false))) = some r := H
                have A83 := Aside0.mk A830
                clear A830
                by_cases c84 : t338 < 0
                ·rw [if_pos c84] at H
                 have c84b0 : decide (t338 < 0) = true := decide_eq_true c84
                 clear c84
                 obtain rfl := Option.some.inj H
                 go_wp2_with (first | ((with_reducible refine gate_callee (f := 21) rfl ?_); refine goesL_ (some 126) rfl rfl Try.func21 (by kernel_rfl) rfl #[.slice Ao69 t325.length co69, .int .i64 1] rfl (by (try simp only [List.map_toArray, List.map_cons, List.map_nil]); first | done | rfl) ?_; (with_reducible refine (laws_heldInt64S.calls kj67 _ _ t325 1 t338 _ ?side1 ?side2 A83.out).mono ?_); (case side1 => exact (Kd.R_reads' HO_16.out).2.2); (case side2 => exact (Kd.R_reads' HO_16.out).2.1); rintro e w' ⟨rfl, ⟨nd, rfl⟩⟩; refine ⟨_, rfl, ?_⟩))
                 go_ret
                 exact ⟨by first | rfl | (simp [errW_none, errW_some] <;> rfl) | (simp [*, errW_none, errW_some] <;> rfl), by repeat (first | exact HB.out | apply below_alloc | apply pw_below_drewN | apply below_drew1)⟩
                ·rw [if_neg c84] at H
                 have c84b0 : decide (t338 < 0) = false := decide_eq_false c84
                 clear c84
                 by_cases c85 : t338 = t324
                 ·rw [if_pos c85] at H
                  have c85b0 : (t338 == t324) = true := beq_iff_eq.mpr c85
                  have c85b1 : (t338 != t324) = false := bne_eq_false_iff_eq.mpr c85
                  clear c85
                  obtain rfl := Option.some.inj H
                  go_wp2_with (first | ((with_reducible refine gate_callee (f := 21) rfl ?_); refine goesL_ (some 126) rfl rfl Try.func21 (by kernel_rfl) rfl #[.slice Ao69 t325.length co69, .int .i64 1] rfl (by (try simp only [List.map_toArray, List.map_cons, List.map_nil]); first | done | rfl) ?_; (with_reducible refine (laws_heldInt64S.calls kj67 _ _ t325 1 t338 _ ?side1 ?side2 A83.out).mono ?_); (case side1 => exact (Kd.R_reads' HO_16.out).2.2); (case side2 => exact (Kd.R_reads' HO_16.out).2.1); rintro e w' ⟨rfl, ⟨nd, rfl⟩⟩; refine ⟨_, rfl, ?_⟩))
                  go_ret
                  exact ⟨by first | rfl | (simp [errW_none, errW_some] <;> rfl) | (simp [*, errW_none, errW_some] <;> rfl), by repeat (first | exact HB.out | apply below_alloc | apply pw_below_drewN | apply below_drew1)⟩
                 ·rw [if_neg c85] at H
                  have c85b0 : (t338 == t324) = false := beq_eq_false_iff_ne.mpr c85
                  have c85b1 : (t338 != t324) = true := bne_iff_ne.mpr c85
                  obtain rfl := Option.some.inj H
                  go_wp2_with (first | ((with_reducible refine gate_callee (f := 21) rfl ?_); refine goesL_ (some 126) rfl rfl Try.func21 (by kernel_rfl) rfl #[.slice Ao69 t325.length co69, .int .i64 1] rfl (by (try simp only [List.map_toArray, List.map_cons, List.map_nil]); first | done | rfl) ?_; (with_reducible refine (laws_heldInt64S.calls kj67 _ _ t325 1 t338 _ ?side1 ?side2 A83.out).mono ?_); (case side1 => exact (Kd.R_reads' HO_16.out).2.2); (case side2 => exact (Kd.R_reads' HO_16.out).2.1); rintro e w' ⟨rfl, ⟨nd, rfl⟩⟩; refine ⟨_, rfl, ?_⟩))
                  go_ret
                  exact ⟨by first | rfl | (simp [errW_none, errW_some] <;> rfl) | (simp [*, errW_none, errW_some] <;> rfl), by repeat (first | exact HB.out | apply below_alloc | apply pw_below_drewN | apply below_drew1)⟩
            ·rw [if_neg c64] at H
             have c64b0 : (t326 == t324) = false := beq_eq_false_iff_ne.mpr c64
             have c64b1 : (t326 != t324) = true := bne_iff_ne.mpr c64
             obtain rfl := Option.some.inj H
             obtain ⟨Ao86, co86, eo86⟩ := Kd.R_slice HO_16.out
             subst eo86
             go_wp2_with (first | ((with_reducible refine gate_callee (f := 20) rfl ?_); refine goesL_ (some 95) rfl rfl Try.func20 (by kernel_rfl) rfl #[.slice Ao86 t306.length co86, .int .i64 1] rfl (by (try simp only [List.map_toArray, List.map_cons, List.map_nil]); first | done | rfl) ?_; (with_reducible refine (laws_markInt64S.calls kj42 (fun k_ => some k_ = (.slice Ao86 t306.length co86 : Value).ownBlock) (.slice Ao86 t306.length co86) t306 1 t324 t325 w _ ?side1 ?side2 A59.out).mono ?_); (case side1 => repeat (first | (with_reducible first | exact HB.out | apply below_alloc | apply pw_below_drewN | apply below_drew1) | exact HB.out)); (case side2 => exact Kd.R_tight rfl HO_16.out); rintro e w87 ⟨rfl, hy0, hb, hkp⟩; refine ⟨_, rfl, ?_⟩; have n0_ := Aside0.mk (Kd.R_mono (ok' := fun k_ => some k_ ≠ (.slice Ao86 t306.length co86 : Value).ownBlock) (Kd.R_keptB (HO_12.out) hkp (fun k_ hk_ hs_ => (hk_) hs_)) (fun k_ hk_ => hk_.1)); have n1_ := Aside0.mk (Kd.R_reok rfl hy0 (fun k_ e_ => HO_16.out.1 k_ e_)); have n2_ := Aside0.mk (hb); clear HO_12; clear HO_16; clear HB; have HO_12 := n0_; have HO_16 := n1_; have HB := n2_; clear n0_ n1_ n2_; (try clear hb); (try clear hkp); (try clear hy0)) | ((with_reducible refine gate_callee (f := 21) rfl ?_); refine goesL_ (some 98) rfl rfl Try.func21 (by kernel_rfl) rfl #[.slice Ao86 t325.length co86, .int .i64 1] rfl (by (try simp only [List.map_toArray, List.map_cons, List.map_nil]); first | done | (rw [show t325.length = t306.length from (Kd.R_reads' HO_16.out).1.symm] <;> rfl) | rfl | (simp only [List.length_drop, List.length_take]; rfl)) ?_; (with_reducible refine (laws_heldInt64S.calls kj42 _ _ t325 1 t326 _ ?side1 ?side2 A60.out).mono ?_); (case side1 => exact (Kd.R_reads' HO_16.out).2.2); (case side2 => rw [show t325.length = t306.length from (Kd.R_reads' HO_16.out).1.symm]; exact (Kd.R_reads' HO_16.out).2.1); rintro e w' ⟨rfl, ⟨nd, rfl⟩⟩; refine ⟨_, rfl, ?_⟩))
             go_ret
             exact ⟨by first | rfl | (simp [errW_none, errW_some] <;> rfl) | (simp [*, errW_none, errW_some] <;> rfl), by repeat (first | exact HB.out | apply below_alloc | apply pw_below_drewN | apply below_drew1)⟩
       ·replace c40 := Bool.eq_false_iff.mpr c40
        subst c40
        have H1 : (some false) = some r := by rw [if_neg (show ¬ (false = true) by decide)] at H; exact H
        clear H
        have H := H1
        clear H1
        obtain rfl := Option.some.inj H
        go_wp2_with (first | ((with_reducible refine gate_callee (f := 14) rfl ?_); refine goesL_ (some 66) rfl rfl Try.func14 (by kernel_rfl) rfl #[.slice A0 l0.length c0] rfl (by (try simp only [List.map_toArray, List.map_cons, List.map_nil]); first | done | rfl) ?_; (with_reducible refine (laws_toSyllableS.calls kj15 _ _ l0 t311 _ ?side1 ?side2 A35.out).mono ?_); (case side1 => exact (Kd.C_below HR0.out HB.out)); (case side2 => exact HC0.out); rintro e w88 ⟨v312, rfl, ho0, hb⟩; refine ⟨_, rfl, ?_⟩; have n0_ := Aside0.mk (Kd.R_below (by exact HO_12.out) hb); have n1_ := Aside0.mk (Kd.R_elder' (by exact HO_14.out) (Kd.R_base ho0) hb); have n2_ := Aside0.mk (Kd.R_below (by exact HO_15.out) hb); have n3_ := Aside0.mk (Kd.R_below (by exact HO_16.out) hb); have n4_ := Aside0.mk (Kd.R_lower (Kd.R_new' ho0 (Kd.R_lt (by exact HO_14.out))) (below_size (by repeat (first | exact HB.out | apply below_alloc | apply pw_below_drewN | apply below_drew1)))); have n5_ := Aside0.mk (below_step (by repeat (first | exact HB.out | apply below_alloc | apply pw_below_drewN | apply below_drew1)) hb); clear HO_12; clear HO_14; clear HO_15; clear HO_16; clear HB; have HO_12 := n0_; have HO_14 := n1_; have HO_15 := n2_; have HO_16 := n3_; have HO313 := n4_; have HB := n5_; clear n0_ n1_ n2_ n3_ n4_ n5_; (try clear hb); (try clear hb2); (try clear hk); (try clear hi); (try clear ho0); obtain ⟨Ao89, co89, eo89⟩ := Kd.R_slice HO313.out; subst eo89) | ((with_reducible refine gate_callee (f := 16) rfl ?_); refine goesL_ (some 67) rfl rfl Try.func16 (by kernel_rfl) rfl #[.slice Ao25 t300.length co25, .slice Ao89 t311.length co89] rfl (by (try simp only [List.map_toArray, List.map_cons, List.map_nil]); first | done | rfl) ?_; (with_reducible refine (laws_eqSyllableS.calls kj15 _ _ t300 _ _ t311 true _ ?side1 ?side2 ?side3 ?side4 A36.out).mono ?_); (case side1 => exact (Kd.R_reads' HO_14.out).2.2); (case side2 => exact (Kd.R_reads' HO_14.out).2.1); (case side3 => exact (Kd.R_reads' HO313.out).2.2); (case side4 => exact (Kd.R_reads' HO313.out).2.1); rintro e w90 ⟨rfl, hb⟩; refine ⟨_, rfl, ?_⟩; have n0_ := Aside0.mk (Kd.R_below (by exact HO_12.out) hb); have n1_ := Aside0.mk (Kd.R_below (by exact HO_14.out) hb); have n2_ := Aside0.mk (Kd.R_below (by exact HO_15.out) hb); have n3_ := Aside0.mk (Kd.R_below (by exact HO_16.out) hb); have n4_ := Aside0.mk (Kd.R_below (by exact HO313.out) hb); have n5_ := Aside0.mk (below_step (by repeat (first | exact HB.out | apply below_alloc | apply pw_below_drewN | apply below_drew1)) hb); clear HO_12; clear HO_14; clear HO_15; clear HO_16; clear HO313; clear HB; have HO_12 := n0_; have HO_14 := n1_; have HO_15 := n2_; have HO_16 := n3_; have HO313 := n4_; have HB := n5_; clear n0_ n1_ n2_ n3_ n4_ n5_; (try clear hb); (try clear hb2); (try clear hk); (try clear hi)) | ((with_reducible refine gate_callee (f := 15) rfl ?_); refine goesL_ (some 71) rfl rfl Try.func15 (by kernel_rfl) rfl #[.slice A1 l1.length c1] rfl (by (try simp only [List.map_toArray, List.map_cons, List.map_nil]); first | done | rfl) ?_; (with_reducible refine (laws_toInt64S.calls kj15 _ _ l1 t315 _ ?side1 ?side2 A38.out).mono ?_); (case side1 => exact (Kd.C_below HR1.out HB.out)); (case side2 => exact HC1.out); rintro e w91 ⟨v316, rfl, ho0, hb⟩; refine ⟨_, rfl, ?_⟩; have n0_ := Aside0.mk (Kd.R_elder' (by exact HO_12.out) (Kd.R_base ho0) hb); have n1_ := Aside0.mk (Kd.R_below (by exact HO_14.out) hb); have n2_ := Aside0.mk (Kd.R_elder' (by exact HO_15.out) (Kd.R_base ho0) hb); have n3_ := Aside0.mk (Kd.R_elder' (by exact HO_16.out) (Kd.R_base ho0) hb); have n4_ := Aside0.mk (Kd.R_below (by exact HO313.out) hb); have n5_ := Aside0.mk (Kd.R_lower (Kd.R_new' (Kd.R_new' (Kd.R_new' ho0 (Kd.R_lt (by exact HO_12.out))) (Kd.R_lt (by exact HO_15.out))) (Kd.R_lt (by exact HO_16.out))) (below_size (by repeat (first | exact HB.out | apply below_alloc | apply pw_below_drewN | apply below_drew1)))); have n6_ := Aside0.mk (below_step (by repeat (first | exact HB.out | apply below_alloc | apply pw_below_drewN | apply below_drew1)) hb); clear HO_12; clear HO_14; clear HO_15; clear HO_16; clear HO313; clear HB; have HO_12 := n0_; have HO_14 := n1_; have HO_15 := n2_; have HO_16 := n3_; have HO313 := n4_; have HO317 := n5_; have HB := n6_; clear n0_ n1_ n2_ n3_ n4_ n5_ n6_; (try clear hb); (try clear hb2); (try clear hk); (try clear hi); (try clear ho0); obtain ⟨Ao92, co92, eo92⟩ := Kd.R_slice HO317.out; subst eo92) | ((with_reducible refine gate_callee (f := 17) rfl ?_); refine goesL_ (some 72) rfl rfl Try.func17 (by kernel_rfl) rfl #[.slice Ao26 t303.length co26, .slice Ao92 t315.length co92] rfl (by (try simp only [List.map_toArray, List.map_cons, List.map_nil]); first | done | rfl) ?_; (with_reducible refine (laws_eqInt64S.calls kj15 _ _ t303 _ _ t315 false _ ?side1 ?side2 ?side3 ?side4 A39.out).mono ?_); (case side1 => exact (Kd.R_reads' HO_15.out).2.2); (case side2 => exact (Kd.R_reads' HO_15.out).2.1); (case side3 => exact (Kd.R_reads' HO317.out).2.2); (case side4 => exact (Kd.R_reads' HO317.out).2.1); rintro e w' ⟨rfl, ⟨nd, rfl⟩⟩; refine ⟨_, rfl, ?_⟩))
        go_ret
        exact ⟨by first | rfl | (simp [errW_none, errW_some] <;> rfl) | (simp [*, errW_none, errW_some] <;> rfl), by repeat (first | exact HB.out | apply below_alloc | apply pw_below_drewN | apply below_drew1)⟩
      ·replace c37 := Bool.eq_false_iff.mpr c37
       subst c37
       have H1 : (some false) = some r := by rw [if_neg (show ¬ (false = true) by decide)] at H; exact H
       clear H
       have H := H1
       clear H1
       obtain rfl := Option.some.inj H
       go_wp2_with (first | ((with_reducible refine gate_callee (f := 14) rfl ?_); refine goesL_ (some 66) rfl rfl Try.func14 (by kernel_rfl) rfl #[.slice A0 l0.length c0] rfl (by (try simp only [List.map_toArray, List.map_cons, List.map_nil]); first | done | rfl) ?_; (with_reducible refine (laws_toSyllableS.calls kj15 _ _ l0 t311 _ ?side1 ?side2 A35.out).mono ?_); (case side1 => exact (Kd.C_below HR0.out HB.out)); (case side2 => exact HC0.out); rintro e w93 ⟨v312, rfl, ho0, hb⟩; refine ⟨_, rfl, ?_⟩; have n0_ := Aside0.mk (Kd.R_below (by exact HO_12.out) hb); have n1_ := Aside0.mk (Kd.R_elder' (by exact HO_14.out) (Kd.R_base ho0) hb); have n2_ := Aside0.mk (Kd.R_below (by exact HO_15.out) hb); have n3_ := Aside0.mk (Kd.R_below (by exact HO_16.out) hb); have n4_ := Aside0.mk (Kd.R_lower (Kd.R_new' ho0 (Kd.R_lt (by exact HO_14.out))) (below_size (by repeat (first | exact HB.out | apply below_alloc | apply pw_below_drewN | apply below_drew1)))); have n5_ := Aside0.mk (below_step (by repeat (first | exact HB.out | apply below_alloc | apply pw_below_drewN | apply below_drew1)) hb); clear HO_12; clear HO_14; clear HO_15; clear HO_16; clear HB; have HO_12 := n0_; have HO_14 := n1_; have HO_15 := n2_; have HO_16 := n3_; have HO313 := n4_; have HB := n5_; clear n0_ n1_ n2_ n3_ n4_ n5_; (try clear hb); (try clear hb2); (try clear hk); (try clear hi); (try clear ho0); obtain ⟨Ao94, co94, eo94⟩ := Kd.R_slice HO313.out; subst eo94) | ((with_reducible refine gate_callee (f := 16) rfl ?_); refine goesL_ (some 67) rfl rfl Try.func16 (by kernel_rfl) rfl #[.slice Ao25 t300.length co25, .slice Ao94 t311.length co94] rfl (by (try simp only [List.map_toArray, List.map_cons, List.map_nil]); first | done | rfl) ?_; (with_reducible refine (laws_eqSyllableS.calls kj15 _ _ t300 _ _ t311 false _ ?side1 ?side2 ?side3 ?side4 A36.out).mono ?_); (case side1 => exact (Kd.R_reads' HO_14.out).2.2); (case side2 => exact (Kd.R_reads' HO_14.out).2.1); (case side3 => exact (Kd.R_reads' HO313.out).2.2); (case side4 => exact (Kd.R_reads' HO313.out).2.1); rintro e w95 ⟨rfl, hb⟩; refine ⟨_, rfl, ?_⟩; have n0_ := Aside0.mk (Kd.R_below (by exact HO_12.out) hb); have n1_ := Aside0.mk (Kd.R_below (by exact HO_14.out) hb); have n2_ := Aside0.mk (Kd.R_below (by exact HO_15.out) hb); have n3_ := Aside0.mk (Kd.R_below (by exact HO_16.out) hb); have n4_ := Aside0.mk (Kd.R_below (by exact HO313.out) hb); have n5_ := Aside0.mk (below_step (by repeat (first | exact HB.out | apply below_alloc | apply pw_below_drewN | apply below_drew1)) hb); clear HO_12; clear HO_14; clear HO_15; clear HO_16; clear HO313; clear HB; have HO_12 := n0_; have HO_14 := n1_; have HO_15 := n2_; have HO_16 := n3_; have HO313 := n4_; have HB := n5_; clear n0_ n1_ n2_ n3_ n4_ n5_; (try clear hb); (try clear hb2); (try clear hk); (try clear hi)))
       go_ret
       exact ⟨by first | rfl | (simp [errW_none, errW_some] <;> rfl) | (simp [*, errW_none, errW_some] <;> rfl), by repeat (first | exact HB.out | apply below_alloc | apply pw_below_drewN | apply below_drew1)⟩

end Go.Proofs.Ytidbcglhpaamdaa.PFnExactNumberedVariation
