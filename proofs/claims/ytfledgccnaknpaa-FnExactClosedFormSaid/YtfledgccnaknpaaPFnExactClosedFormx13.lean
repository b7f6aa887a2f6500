-- written by xprint.py, a program of this repo over the kit's print; not trusted: Lean checks it
import Derived.Test.YtfledgccnaknpaaPFnExactClosedFormx0
import Derived.Test.YtfledgccnaknpaaPFnExactClosedFormx1
import Derived.Test.YtfledgccnaknpaaPFnExactClosedFormx2
import Derived.Test.YtfledgccnaknpaaPFnExactClosedFormx3
import Derived.Test.YtfledgccnaknpaaPFnExactClosedFormx7
import Derived.Test.YtfledgccnaknpaaPFnExactClosedFormx12
namespace Go.Proofs.Ytfledgccnaknpaa.PFnExactClosedForm
open Go.RowKit Go.Proofs.YtfledgccnaknpaaW.PrintWords Go.Proofs.YtfledgccnaknpaaW.PrintLast Go.Proofs.YtfledgccnaknpaaW.PrintMore
attribute [local go_sem] max2_int min2_int max_two min_two max_three min_three max_four min_four   -- for this text's walks alone
set_option linter.unusedVariables false
set_option linter.unusedSimpArgs false

open List renaming setIfInBounds_toArray → s0_, set_cons_zero → s1_, set_cons_succ → s2_
/-! ### laws_FnExactClosedForm: function 12 -/
mutual
def laws_FnExactClosedForm.j0 : Nat → List (S101) → List Int → List (List Int) → List Int → Int → List (S103) → List Int → List (List Int) → List Int → Int → Bool → Option (Bool)
 | 0, _, _, _, _, _, _, _, _, _, _, _ => none
 | k + 1, x0, x1, x2, x8, x9, x10, x11, x12, x13, x14, x64 => if x64 = true then (some false) else ((laws_toSyllableS.f k x0).bind fun t267 => ((laws_eqSyllableS.f k x10 t267).bind fun t270 => (if t270 = true then ((laws_toInt64S.f k x1).bind fun t271 => ((laws_eqInt64S.f k x11 t271).bind fun t274 => (if t274 = true then ((laws_toInt64SS.f k x2).bind fun t275 => ((laws_eqInt64SS.f k x12 t275).bind fun t278 => (if t278 = true then ((laws_markSyllableS.f k x10 1).bind fun bt279 => ((laws_markInt64S.f k x11 bt279.1).bind fun bt281 => ((laws_markInt64SS.f k x12 bt281.1).bind fun bt283 => (if bt283.1 < 0 then (laws_FnExactClosedForm.j1 k x0 x1 x2 x8 x9 x13 true) else ((laws_eqInt64S.f k x13 x8).bind fun t285 => (if t285 = true then (laws_FnExactClosedForm.j1 k x0 x1 x2 x8 x9 x13 (x14 != x9)) else (laws_FnExactClosedForm.j1 k x0 x1 x2 x8 x9 x13 true))))))) else (some false)))) else (some false)))) else (some false))))
def laws_FnExactClosedForm.j1 : Nat → List (S101) → List Int → List (List Int) → List Int → Int → List Int → Bool → Option (Bool)
 | 0, _, _, _, _, _, _, _ => none
 | k + 1, x0, x1, x2, x8, x9, x13, x101 => if x101 = true then (some false) else ((laws_markInt64S.f k x13 1).bind fun bt286 => ((laws_heldInt64S.f k bt286.2 1).bind fun t288 => (if t288 < 0 then (some false) else (if t288 = bt286.1 then ((laws_toSyllableS.f k x0).bind fun t289 => ((laws_toInt64S.f k x1).bind fun t292 => ((laws_toInt64SS.f k x2).bind fun t295 => ((impl_ClosedForm.f k t289 t292 t295).bind fun bt298 => ((laws_eqInt64S.f k bt298.1 x8).bind fun t302 => (if t302 = true then (laws_FnExactClosedForm.j2 k bt286.2 bt286.1 (bt298.2 != x9)) else (laws_FnExactClosedForm.j2 k bt286.2 bt286.1 true))))))) else (some false)))))
def laws_FnExactClosedForm.j2 : Nat → List Int → Int → Bool → Option (Bool)
 | 0, _, _, _ => none
 | k + 1, x13, x16, x131 => if x131 = true then (some false) else ((laws_heldInt64S.f k x13 1).bind fun t303 => (if t303 < 0 then (some false) else (if t303 = x16 then (some true) else (some false))))
end
def laws_FnExactClosedForm.f (k : Nat) (l0 : List (S101)) (l1 : List Int) (l2 : List (List Int)) : Option (Bool) := if (l1.length : Int) > 1048576 then (some true) else ((laws_szSyllableS.f k l0 1048576).bind fun t238 => (if t238 < 0 then (some true) else ((laws_szInt64SS.f k l2 t238).bind fun t239 => (if t239 < 0 then (some true) else ((laws_toSyllableS.f k l0).bind fun t240 => ((laws_toInt64S.f k l1).bind fun t243 => ((laws_toInt64SS.f k l2).bind fun t246 => ((spec_ClosedForm.f k t240 t243 t246).bind fun bt249 => ((laws_toSyllableS.f k l0).bind fun t253 => ((laws_toInt64S.f k l1).bind fun t256 => ((laws_toInt64SS.f k l2).bind fun t259 => ((impl_ClosedForm.f k t253 t256 t259).bind fun bt262 => ((laws_eqInt64S.f k bt262.1 bt249.1).bind fun t266 => (if t266 = true then (laws_FnExactClosedForm.j0 k l0 l1 l2 bt249.1 bt249.2 t253 t256 t259 bt262.1 bt262.2 (bt262.2 != bt249.2)) else (laws_FnExactClosedForm.j0 k l0 l1 l2 bt249.1 bt249.2 t253 t256 t259 bt262.1 bt262.2 true)))))))))))))))
theorem laws_FnExactClosedForm.mono_l : ∀ k, (∀ y0 y1 y2 y3 y4 y5 y6 y7 y8 y9 y10, LeO (laws_FnExactClosedForm.j0 k y0 y1 y2 y3 y4 y5 y6 y7 y8 y9 y10) (laws_FnExactClosedForm.j0 (k + 1) y0 y1 y2 y3 y4 y5 y6 y7 y8 y9 y10)) ∧ (∀ y0 y1 y2 y3 y4 y5 y6, LeO (laws_FnExactClosedForm.j1 k y0 y1 y2 y3 y4 y5 y6) (laws_FnExactClosedForm.j1 (k + 1) y0 y1 y2 y3 y4 y5 y6)) ∧ (∀ y0 y1 y2, LeO (laws_FnExactClosedForm.j2 k y0 y1 y2) (laws_FnExactClosedForm.j2 (k + 1) y0 y1 y2))
 | 0 => ⟨fun _ _ _ _ _ _ _ _ _ _ _ r h => by simp [laws_FnExactClosedForm.j0] at h, fun _ _ _ _ _ _ _ r h => by simp [laws_FnExactClosedForm.j1] at h, fun _ _ _ r h => by simp [laws_FnExactClosedForm.j2] at h⟩
 | k + 1 => by
  obtain ⟨ih0, ih1, ih2⟩ := laws_FnExactClosedForm.mono_l k
  refine ⟨?_, ?_, ?_⟩
  ·intro y0 y1 y2 y3 y4 y5 y6 y7 y8 y9 y10
   unfold laws_FnExactClosedForm.j0
   repeat' first
   | (with_reducible exact ih0 _ _ _ _ _ _ _ _ _ _ _)
   | (with_reducible exact ih1 _ _ _ _ _ _ _)
   | (with_reducible exact ih2 _ _ _)
   | (with_reducible exact impl_ClosedForm.mono _ _ _ _)
   | (with_reducible exact laws_eqInt64S.mono _ _ _)
   | (with_reducible exact laws_eqInt64SS.mono _ _ _)
   | (with_reducible exact laws_eqSyllableS.mono _ _ _)
   | (with_reducible exact laws_heldInt64S.mono _ _ _)
   | (with_reducible exact laws_markInt64S.mono _ _ _)
   | (with_reducible exact laws_markInt64SS.mono _ _ _)
   | (with_reducible exact laws_markSyllableS.mono _ _ _)
   | (with_reducible exact laws_szInt64SS.mono _ _ _)
   | (with_reducible exact laws_szSyllableS.mono _ _ _)
   | (with_reducible exact laws_toInt64S.mono _ _)
   | (with_reducible exact laws_toInt64SS.mono _ _)
   | (with_reducible exact laws_toSyllableS.mono _ _)
   | (with_reducible exact spec_ClosedForm.mono _ _ _ _)
   | (with_reducible exact LeO.refl _)
   | (with_reducible exact LeO.none _)
   | (with_reducible refine LeO.ite ?_ ?_)
   | (with_reducible refine LeO.bind ?_ (fun _ => ?_))
   | exact ih0 _ _ _ _ _ _ _ _ _ _ _
   | exact ih1 _ _ _ _ _ _ _
   | exact ih2 _ _ _
   | exact impl_ClosedForm.mono _ _ _ _
   | exact laws_eqInt64S.mono _ _ _
   | exact laws_eqInt64SS.mono _ _ _
   | exact laws_eqSyllableS.mono _ _ _
   | exact laws_heldInt64S.mono _ _ _
   | exact laws_markInt64S.mono _ _ _
   | exact laws_markInt64SS.mono _ _ _
   | exact laws_markSyllableS.mono _ _ _
   | exact laws_szInt64SS.mono _ _ _
   | exact laws_szSyllableS.mono _ _ _
   | exact laws_toInt64S.mono _ _
   | exact laws_toInt64SS.mono _ _
   | exact laws_toSyllableS.mono _ _
   | exact spec_ClosedForm.mono _ _ _ _
   | exact LeO.none _
   | refine LeO.ite ?_ ?_
   | refine LeO.bind ?_ (fun _ => ?_)
  ·intro y0 y1 y2 y3 y4 y5 y6
   unfold laws_FnExactClosedForm.j1
   repeat' first
   | (with_reducible exact ih0 _ _ _ _ _ _ _ _ _ _ _)
   | (with_reducible exact ih1 _ _ _ _ _ _ _)
   | (with_reducible exact ih2 _ _ _)
   | (with_reducible exact impl_ClosedForm.mono _ _ _ _)
   | (with_reducible exact laws_eqInt64S.mono _ _ _)
   | (with_reducible exact laws_eqInt64SS.mono _ _ _)
   | (with_reducible exact laws_eqSyllableS.mono _ _ _)
   | (with_reducible exact laws_heldInt64S.mono _ _ _)
   | (with_reducible exact laws_markInt64S.mono _ _ _)
   | (with_reducible exact laws_markInt64SS.mono _ _ _)
   | (with_reducible exact laws_markSyllableS.mono _ _ _)
   | (with_reducible exact laws_szInt64SS.mono _ _ _)
   | (with_reducible exact laws_szSyllableS.mono _ _ _)
   | (with_reducible exact laws_toInt64S.mono _ _)
   | (with_reducible exact laws_toInt64SS.mono _ _)
   | (with_reducible exact laws_toSyllableS.mono _ _)
   | (with_reducible exact spec_ClosedForm.mono _ _ _ _)
   | (with_reducible exact LeO.refl _)
   | (with_reducible exact LeO.none _)
   | (with_reducible refine LeO.ite ?_ ?_)
   | (with_reducible refine LeO.bind ?_ (fun _ => ?_))
   | exact ih0 _ _ _ _ _ _ _ _ _ _ _
   | exact ih1 _ _ _ _ _ _ _
   | exact ih2 _ _ _
   | exact impl_ClosedForm.mono _ _ _ _
   | exact laws_eqInt64S.mono _ _ _
   | exact laws_eqInt64SS.mono _ _ _
   | exact laws_eqSyllableS.mono _ _ _
   | exact laws_heldInt64S.mono _ _ _
   | exact laws_markInt64S.mono _ _ _
   | exact laws_markInt64SS.mono _ _ _
   | exact laws_markSyllableS.mono _ _ _
   | exact laws_szInt64SS.mono _ _ _
   | exact laws_szSyllableS.mono _ _ _
   | exact laws_toInt64S.mono _ _
   | exact laws_toInt64SS.mono _ _
   | exact laws_toSyllableS.mono _ _
   | exact spec_ClosedForm.mono _ _ _ _
   | exact LeO.none _
   | refine LeO.ite ?_ ?_
   | refine LeO.bind ?_ (fun _ => ?_)
  ·intro y0 y1 y2
   unfold laws_FnExactClosedForm.j2
   repeat' first
   | (with_reducible exact ih0 _ _ _ _ _ _ _ _ _ _ _)
   | (with_reducible exact ih1 _ _ _ _ _ _ _)
   | (with_reducible exact ih2 _ _ _)
   | (with_reducible exact impl_ClosedForm.mono _ _ _ _)
   | (with_reducible exact laws_eqInt64S.mono _ _ _)
   | (with_reducible exact laws_eqInt64SS.mono _ _ _)
   | (with_reducible exact laws_eqSyllableS.mono _ _ _)
   | (with_reducible exact laws_heldInt64S.mono _ _ _)
   | (with_reducible exact laws_markInt64S.mono _ _ _)
   | (with_reducible exact laws_markInt64SS.mono _ _ _)
   | (with_reducible exact laws_markSyllableS.mono _ _ _)
   | (with_reducible exact laws_szInt64SS.mono _ _ _)
   | (with_reducible exact laws_szSyllableS.mono _ _ _)
   | (with_reducible exact laws_toInt64S.mono _ _)
   | (with_reducible exact laws_toInt64SS.mono _ _)
   | (with_reducible exact laws_toSyllableS.mono _ _)
   | (with_reducible exact spec_ClosedForm.mono _ _ _ _)
   | (with_reducible exact LeO.refl _)
   | (with_reducible exact LeO.none _)
   | (with_reducible refine LeO.ite ?_ ?_)
   | (with_reducible refine LeO.bind ?_ (fun _ => ?_))
   | exact ih0 _ _ _ _ _ _ _ _ _ _ _
   | exact ih1 _ _ _ _ _ _ _
   | exact ih2 _ _ _
   | exact impl_ClosedForm.mono _ _ _ _
   | exact laws_eqInt64S.mono _ _ _
   | exact laws_eqInt64SS.mono _ _ _
   | exact laws_eqSyllableS.mono _ _ _
   | exact laws_heldInt64S.mono _ _ _
   | exact laws_markInt64S.mono _ _ _
   | exact laws_markInt64SS.mono _ _ _
   | exact laws_markSyllableS.mono _ _ _
   | exact laws_szInt64SS.mono _ _ _
   | exact laws_szSyllableS.mono _ _ _
   | exact laws_toInt64S.mono _ _
   | exact laws_toInt64SS.mono _ _
   | exact laws_toSyllableS.mono _ _
   | exact spec_ClosedForm.mono _ _ _ _
   | exact LeO.none _
   | refine LeO.ite ?_ ?_
   | refine LeO.bind ?_ (fun _ => ?_)
theorem laws_FnExactClosedForm.mono : ∀ a0 a1 a2 k, LeO (laws_FnExactClosedForm.f k a0 a1 a2) (laws_FnExactClosedForm.f (k + 1) a0 a1 a2) := by
 intro a0 a1 a2 k
 obtain ⟨ih0, ih1, ih2⟩ := laws_FnExactClosedForm.mono_l k
 unfold laws_FnExactClosedForm.f
 repeat' first
   | (with_reducible exact ih0 _ _ _ _ _ _ _ _ _ _ _)
   | (with_reducible exact ih1 _ _ _ _ _ _ _)
   | (with_reducible exact ih2 _ _ _)
   | (with_reducible exact impl_ClosedForm.mono _ _ _ _)
   | (with_reducible exact laws_eqInt64S.mono _ _ _)
   | (with_reducible exact laws_eqInt64SS.mono _ _ _)
   | (with_reducible exact laws_eqSyllableS.mono _ _ _)
   | (with_reducible exact laws_heldInt64S.mono _ _ _)
   | (with_reducible exact laws_markInt64S.mono _ _ _)
   | (with_reducible exact laws_markInt64SS.mono _ _ _)
   | (with_reducible exact laws_markSyllableS.mono _ _ _)
   | (with_reducible exact laws_szInt64SS.mono _ _ _)
   | (with_reducible exact laws_szSyllableS.mono _ _ _)
   | (with_reducible exact laws_toInt64S.mono _ _)
   | (with_reducible exact laws_toInt64SS.mono _ _)
   | (with_reducible exact laws_toSyllableS.mono _ _)
   | (with_reducible exact spec_ClosedForm.mono _ _ _ _)
   | (with_reducible exact LeO.refl _)
   | (with_reducible exact LeO.none _)
   | (with_reducible refine LeO.ite ?_ ?_)
   | (with_reducible refine LeO.bind ?_ (fun _ => ?_))
   | exact ih0 _ _ _ _ _ _ _ _ _ _ _
   | exact ih1 _ _ _ _ _ _ _
   | exact ih2 _ _ _
   | exact impl_ClosedForm.mono _ _ _ _
   | exact laws_eqInt64S.mono _ _ _
   | exact laws_eqInt64SS.mono _ _ _
   | exact laws_eqSyllableS.mono _ _ _
   | exact laws_heldInt64S.mono _ _ _
   | exact laws_markInt64S.mono _ _ _
   | exact laws_markInt64SS.mono _ _ _
   | exact laws_markSyllableS.mono _ _ _
   | exact laws_szInt64SS.mono _ _ _
   | exact laws_szSyllableS.mono _ _ _
   | exact laws_toInt64S.mono _ _
   | exact laws_toInt64SS.mono _ _
   | exact laws_toSyllableS.mono _ _
   | exact spec_ClosedForm.mono _ _ _ _
   | exact LeO.none _
   | refine LeO.ite ?_ ?_
   | refine LeO.bind ?_ (fun _ => ?_)
set_option maxHeartbeats 8000000 in
set_option maxRecDepth 100000 in
theorem laws_FnExactClosedForm.calls (k : Nat) (A0 : Option Addr) (c0 : Nat) (l0 : List (S101)) (A1 : Option Addr) (c1 : Nat) (l1 : List Int) (A2 : Option Addr) (c2 : Nat) (l2 : List (List Int)) (r : Bool) (w : World) (hr0 : Kd.C k101 w A0 l0.length l0) (hc0 : l0.length ≤ c0) (hr1 : Kd.C (Kd.int .i64) w A1 l1.length l1) (hc1 : l1.length ≤ c1) (hr2 : Kd.C (Kd.slice 2 (Kd.int .i64)) w A2 l2.length l2) (hc2 : l2.length ≤ c2) (h : laws_FnExactClosedForm.f k l0 l1 l2 = some r) :
  Calls Try.prog 12 #[.slice A0 l0.length c0, .slice A1 l1.length c1, .slice A2 l2.length c2] w fun e w' => e = .returned (.bool r) ∧ Below w.heap.size w w' := by
 have HR0 := Aside0.mk hr0
 have HC0 := Aside0.mk hc0
 clear hr0 hc0
 have HR1 := Aside0.mk hr1
 have HC1 := Aside0.mk hc1
 clear hr1 hc1
 have HR2 := Aside0.mk hr2
 have HC2 := Aside0.mk hc2
 clear hr2 hc2
 have HB := Aside0.mk (Below.refl w.heap.size w)
 have H : (if (l1.length : Int) > 1048576 then (some true) else ((laws_szSyllableS.f k l0 1048576).bind fun t238 => (if t238 < 0 then (some true) else ((laws_szInt64SS.f k l2 t238).bind fun t239 => (if t239 < 0 then (some true) else ((laws_toSyllableS.f k l0).bind fun t240 => ((laws_toInt64S.f k l1).bind fun t243 => ((laws_toInt64SS.f k l2).bind fun t246 => ((spec_ClosedForm.f k t240 t243 t246).bind fun bt249 => ((laws_toSyllableS.f k l0).bind fun t253 => ((laws_toInt64S.f k l1).bind fun t256 => ((laws_toInt64SS.f k l2).bind fun t259 => ((impl_ClosedForm.f k t253 t256 t259).bind fun bt262 => ((laws_eqInt64S.f k bt262.1 bt249.1).bind fun t266 => (if t266 = true then (laws_FnExactClosedForm.j0 k l0 l1 l2 bt249.1 bt249.2 t253 t256 t259 bt262.1 bt262.2 (bt262.2 != bt249.2)) else (laws_FnExactClosedForm.j0 k l0 l1 l2 bt249.1 bt249.2 t253 t256 t259 bt262.1 bt262.2 true)))))))))))))))) = some r := h
 clear h
 by_cases c4 : (l1.length : Int) > 1048576
 rotate_left
 ·rw [if_neg c4] at H
  have c4b0 : decide (1048576 < (l1.length : Int)) = false := decide_eq_false c4
  have c4b1 : decide (1048576 < l1.length) = false := decide_eq_false (by omega)
  clear c4
  replace H := Option.bind_eq_some_iff.mp H
  obtain ⟨t238, A50, H⟩ := H
  replace H : (if t238 < 0 then (some true) else ((laws_szInt64SS.f k l2 t238).bind fun t239 => (if t239 < 0 then (some true) else ((laws_toSyllableS.f k l0).bind fun t240 => ((laws_toInt64S.f k l1).bind fun t243 => ((laws_toInt64SS.f k l2).bind fun t246 => ((spec_ClosedForm.f k t240 t243 t246).bind fun bt249 => ((laws_toSyllableS.f k l0).bind fun t253 => ((laws_toInt64S.f k l1).bind fun t256 => ((laws_toInt64SS.f k l2).bind fun t259 => ((impl_ClosedForm.f k t253 t256 t259).bind fun bt262 => ((laws_eqInt64S.f k bt262.1 bt249.1).bind fun t266 => (if t266 = true then (laws_FnExactClosedForm.j0 k l0 l1 l2 bt249.1 bt249.2 t253 t256 t259 bt262.1 bt262.2 (bt262.2 != bt249.2)) else (laws_FnExactClosedForm.j0 k l0 l1 l2 bt249.1 bt249.2 t253 t256 t259 bt262.1 bt262.2 true)))))))))))))) = some r := H
  have A5 := Aside0.mk A50
  clear A50
  by_cases c6 : t238 < 0
  rotate_left
  ·rw [if_neg c6] at H
   have c6b0 : decide (t238 < 0) = false := decide_eq_false c6
   clear c6
   replace H := Option.bind_eq_some_iff.mp H
   obtain ⟨t239, A80, H⟩ := H
   replace H : (if t239 < 0 then (some true) else ((laws_toSyllableS.f k l0).bind fun t240 => ((laws_toInt64S.f k l1).bind fun t243 => ((laws_toInt64SS.f k l2).bind fun t246 => ((spec_ClosedForm.f k t240 t243 t246).bind fun bt249 => ((laws_toSyllableS.f k l0).bind fun t253 => ((laws_toInt64S.f k l1).bind fun t256 => ((laws_toInt64SS.f k l2).bind fun t259 => ((impl_ClosedForm.f k t253 t256 t259).bind fun bt262 => ((laws_eqInt64S.f k bt262.1 bt249.1).bind fun t266 => (if t266 = true then (laws_FnExactClosedForm.j0 k l0 l1 l2 bt249.1 bt249.2 t253 t256 t259 bt262.1 bt262.2 (bt262.2 != bt249.2)) else (laws_FnExactClosedForm.j0 k l0 l1 l2 bt249.1 bt249.2 t253 t256 t259 bt262.1 bt262.2 true)))))))))))) = some r := H
   have A8 := Aside0.mk A80
   clear A80
   by_cases c9 : t239 < 0
   rotate_left
   ·rw [if_neg c9] at H
    have c9b0 : decide (t239 < 0) = false := decide_eq_false c9
    clear c9
    replace H := Option.bind_eq_some_iff.mp H
    obtain ⟨t240, A110, H⟩ := H
    replace H : ((laws_toInt64S.f k l1).bind fun t243 => ((laws_toInt64SS.f k l2).bind fun t246 => ((spec_ClosedForm.f k t240 t243 t246).bind fun bt249 => ((laws_toSyllableS.f k l0).bind fun t253 => ((laws_toInt64S.f k l1).bind fun t256 => ((laws_toInt64SS.f k l2).bind fun t259 => ((impl_ClosedForm.f k t253 t256 t259).bind fun bt262 => ((laws_eqInt64S.f k bt262.1 bt249.1).bind fun t266 => (if t266 = true then (laws_FnExactClosedForm.j0 k l0 l1 l2 bt249.1 bt249.2 t253 t256 t259 bt262.1 bt262.2 (bt262.2 != bt249.2)) else (laws_FnExactClosedForm.j0 k l0 l1 l2 bt249.1 bt249.2 t253 t256 t259 bt262.1 bt262.2 true)))))))))) = some r := H
    have A11 := Aside0.mk A110
    clear A110
    replace H := Option.bind_eq_some_iff.mp H
    obtain ⟨t243, A120, H⟩ := H
    replace H : ((laws_toInt64SS.f k l2).bind fun t246 => ((spec_ClosedForm.f k t240 t243 t246).bind fun bt249 => ((laws_toSyllableS.f k l0).bind fun t253 => ((laws_toInt64S.f k l1).bind fun t256 => ((laws_toInt64SS.f k l2).bind fun t259 => ((impl_ClosedForm.f k t253 t256 t259).bind fun bt262 => ((laws_eqInt64S.f k bt262.1 bt249.1).bind fun t266 => (if t266 = true then (laws_FnExactClosedForm.j0 k l0 l1 l2 bt249.1 bt249.2 t253 t256 t259 bt262.1 bt262.2 (bt262.2 != bt249.2)) else (laws_FnExactClosedForm.j0 k l0 l1 l2 bt249.1 bt249.2 t253 t256 t259 bt262.1 bt262.2 true))))))))) = some r := H
    have A12 := Aside0.mk A120
    clear A120
    replace H := Option.bind_eq_some_iff.mp H
    obtain ⟨t246, A130, H⟩ := H
    replace H : ((spec_ClosedForm.f k t240 t243 t246).bind fun bt249 => ((laws_toSyllableS.f k l0).bind fun t253 => ((laws_toInt64S.f k l1).bind fun t256 => ((laws_toInt64SS.f k l2).bind fun t259 => ((impl_ClosedForm.f k t253 t256 t259).bind fun bt262 => ((laws_eqInt64S.f k bt262.1 bt249.1).bind fun t266 => (if t266 = true then (laws_FnExactClosedForm.j0 k l0 l1 l2 bt249.1 bt249.2 t253 t256 t259 bt262.1 bt262.2 (bt262.2 != bt249.2)) else (laws_FnExactClosedForm.j0 k l0 l1 l2 bt249.1 bt249.2 t253 t256 t259 bt262.1 bt262.2 true)))))))) = some r := H
    have A13 := Aside0.mk A130
    clear A130
    replace H := Option.bind_eq_some_iff.mp H
    obtain ⟨⟨t249, t250⟩, A140, H⟩ := H
    replace H : ((laws_toSyllableS.f k l0).bind fun t253 => ((laws_toInt64S.f k l1).bind fun t256 => ((laws_toInt64SS.f k l2).bind fun t259 => ((impl_ClosedForm.f k t253 t256 t259).bind fun bt262 => ((laws_eqInt64S.f k bt262.1 t249).bind fun t266 => (if t266 = true then (laws_FnExactClosedForm.j0 k l0 l1 l2 t249 t250 t253 t256 t259 bt262.1 bt262.2 (bt262.2 != t250)) else (laws_FnExactClosedForm.j0 k l0 l1 l2 t249 t250 t253 t256 t259 bt262.1 bt262.2 true))))))) = some r := H
    have A14 := Aside0.mk A140
    clear A140
    replace H := Option.bind_eq_some_iff.mp H
    obtain ⟨t253, A150, H⟩ := H
    replace H : ((laws_toInt64S.f k l1).bind fun t256 => ((laws_toInt64SS.f k l2).bind fun t259 => ((impl_ClosedForm.f k t253 t256 t259).bind fun bt262 => ((laws_eqInt64S.f k bt262.1 t249).bind fun t266 => (if t266 = true then (laws_FnExactClosedForm.j0 k l0 l1 l2 t249 t250 t253 t256 t259 bt262.1 bt262.2 (bt262.2 != t250)) else (laws_FnExactClosedForm.j0 k l0 l1 l2 t249 t250 t253 t256 t259 bt262.1 bt262.2 true)))))) = some r := H
    have A15 := Aside0.mk A150
    clear A150
    replace H := Option.bind_eq_some_iff.mp H
    obtain ⟨t256, A160, H⟩ := H
    replace H : ((laws_toInt64SS.f k l2).bind fun t259 => ((impl_ClosedForm.f k t253 t256 t259).bind fun bt262 => ((laws_eqInt64S.f k bt262.1 t249).bind fun t266 => (if t266 = true then (laws_FnExactClosedForm.j0 k l0 l1 l2 t249 t250 t253 t256 t259 bt262.1 bt262.2 (bt262.2 != t250)) else (laws_FnExactClosedForm.j0 k l0 l1 l2 t249 t250 t253 t256 t259 bt262.1 bt262.2 true))))) = some r := H
    have A16 := Aside0.mk A160
    clear A160
    replace H := Option.bind_eq_some_iff.mp H
    obtain ⟨t259, A170, H⟩ := H
    replace H : ((impl_ClosedForm.f k t253 t256 t259).bind fun bt262 => ((laws_eqInt64S.f k bt262.1 t249).bind fun t266 => (if t266 = true then (laws_FnExactClosedForm.j0 k l0 l1 l2 t249 t250 t253 t256 t259 bt262.1 bt262.2 (bt262.2 != t250)) else (laws_FnExactClosedForm.j0 k l0 l1 l2 t249 t250 t253 t256 t259 bt262.1 bt262.2 true)))) = some r := H
    have A17 := Aside0.mk A170
    clear A170
    replace H := Option.bind_eq_some_iff.mp H
    obtain ⟨⟨t262, t263⟩, A180, H⟩ := H
    replace H : ((laws_eqInt64S.f k t262 t249).bind fun t266 => (if t266 = true then (laws_FnExactClosedForm.j0 k l0 l1 l2 t249 t250 t253 t256 t259 t262 t263 (t263 != t250)) else (laws_FnExactClosedForm.j0 k l0 l1 l2 t249 t250 t253 t256 t259 t262 t263 true))) = some r := H
    have A18 := Aside0.mk A180
    clear A180
    have HC19 := Aside0.mk H
    clear H
    go_enter Try.func12, Try.ntmps12
    go_upto_region 15 with (first | ((with_reducible refine gate_callee (f := 15) rfl ?_); refine goesL_ (some 25) rfl rfl Try.func15 (by kernel_rfl) rfl #[.slice A0 l0.length c0, .int .i64 1048576] rfl (by (try simp only [List.map_toArray, List.map_cons, List.map_nil]); first | done | rfl) ?_; (with_reducible refine (laws_szSyllableS.calls k _ _ l0 1048576 t238 _ ?side1 ?side2 A5.out).mono ?_); (case side1 => exact HR0.out); (case side2 => exact HC0.out); rintro e w20 ⟨rfl, hb⟩; refine ⟨_, rfl, ?_⟩; have n0_ := Aside0.mk (below_step (by repeat (first | exact HB.out | apply below_alloc | apply pw_below_drewN | apply below_drew1)) hb); clear HB; have HB := n0_; clear n0_; (try clear hb); (try clear hb2); (try clear hk); (try clear hi)) | ((with_reducible refine gate_callee (f := 78) rfl ?_); refine goesL_ (some 30) rfl rfl Try.func78 (by kernel_rfl) rfl #[.slice A2 l2.length c2, .int .i64 t238] rfl (by (try simp only [List.map_toArray, List.map_cons, List.map_nil]); first | done | rfl) ?_; (with_reducible refine (laws_szInt64SS.calls k _ _ l2 t238 t239 _ ?side1 ?side2 A8.out).mono ?_); (case side1 => exact (Kd.C_below HR2.out HB.out)); (case side2 => exact HC2.out); rintro e w' ⟨rfl, ⟨nd, rfl⟩⟩; refine ⟨_, rfl, ?_⟩) | ((with_reducible refine gate_callee (f := 17) rfl ?_); refine goesL_ (some 35) rfl rfl Try.func17 (by kernel_rfl) rfl #[.slice A0 l0.length c0] rfl (by (try simp only [List.map_toArray, List.map_cons, List.map_nil]); first | done | rfl) ?_; (with_reducible refine (laws_toSyllableS.calls k _ _ l0 t240 _ ?side1 ?side2 A11.out).mono ?_); (case side1 => repeat (first | exact (Kd.C_below HR0.out (by repeat (first | exact HB.out | apply below_alloc | apply pw_below_drewN | apply below_drew1))))); (case side2 => exact HC0.out); rintro e w21 ⟨v241, rfl, ho0, hb⟩; refine ⟨_, rfl, ?_⟩; have n0_ := Aside0.mk (Kd.R_lower ho0 (below_size (by repeat (first | exact HB.out | apply below_alloc | apply pw_below_drewN | apply below_drew1)))); have n1_ := Aside0.mk (below_step (by repeat (first | exact HB.out | apply below_alloc | apply pw_below_drewN | apply below_drew1)) hb); clear HB; have HO242 := n0_; have HB := n1_; clear n0_ n1_; (try clear hb); (try clear hb2); (try clear hk); (try clear hi); (try clear ho0)) | ((with_reducible refine gate_callee (f := 18) rfl ?_); refine goesL_ (some 37) rfl rfl Try.func18 (by kernel_rfl) rfl #[.slice A1 l1.length c1] rfl (by (try simp only [List.map_toArray, List.map_cons, List.map_nil]); first | done | rfl) ?_; (with_reducible refine (laws_toInt64S.calls k _ _ l1 t243 _ ?side1 ?side2 A12.out).mono ?_); (case side1 => exact (Kd.C_below HR1.out HB.out)); (case side2 => exact HC1.out); rintro e w22 ⟨v244, rfl, ho0, hb⟩; refine ⟨_, rfl, ?_⟩; have n0_ := Aside0.mk (Kd.R_below (by exact HO242.out) hb); have n1_ := Aside0.mk (Kd.R_lower ho0 (below_size (by repeat (first | exact HB.out | apply below_alloc | apply pw_below_drewN | apply below_drew1)))); have n2_ := Aside0.mk (below_step (by repeat (first | exact HB.out | apply below_alloc | apply pw_below_drewN | apply below_drew1)) hb); clear HO242; clear HB; have HO242 := n0_; have HO245 := n1_; have HB := n2_; clear n0_ n1_ n2_; (try clear hb); (try clear hb2); (try clear hk); (try clear hi); (try clear ho0)) | ((with_reducible refine gate_callee (f := 80) rfl ?_); refine goesL_ (some 39) rfl rfl Try.func80 (by kernel_rfl) rfl #[.slice A2 l2.length c2] rfl (by (try simp only [List.map_toArray, List.map_cons, List.map_nil]); first | done | rfl) ?_; (with_reducible refine (laws_toInt64SS.calls k _ _ l2 t246 _ ?side1 ?side2 A13.out).mono ?_); (case side1 => exact (Kd.C_below HR2.out HB.out)); (case side2 => exact HC2.out); rintro e w23 ⟨v247, rfl, ho0, hb⟩; refine ⟨_, rfl, ?_⟩; have n0_ := Aside0.mk (Kd.R_below (by exact HO242.out) hb); have n1_ := Aside0.mk (Kd.R_below (by exact HO245.out) hb); have n2_ := Aside0.mk (Kd.S_lower (Kd.S_new' ho0 (Kd.R_lt (by exact HO245.out))) (below_size (by repeat (first | exact HB.out | apply below_alloc | apply pw_below_drewN | apply below_drew1)))); have n3_ := Aside0.mk (below_step (by repeat (first | exact HB.out | apply below_alloc | apply pw_below_drewN | apply below_drew1)) hb); clear HO242; clear HO245; clear HB; have HO242 := n0_; have HO245 := n1_; have HO248 := n2_; have HB := n3_; clear n0_ n1_ n2_ n3_; (try clear hb); (try clear hb2); (try clear hk); (try clear hi); (try clear ho0); obtain ⟨Ao24, co24, eo24⟩ := Kd.R_slice HO242.out; subst eo24; obtain ⟨Ao25, co25, eo25⟩ := Kd.R_slice HO245.out; subst eo25; obtain ⟨Ao26, co26, eo26⟩ := Kd.S_slice HO248.out; subst eo26) | ((with_reducible refine gate_callee (f := 79) rfl ?_); refine goesL_ (some 40) rfl rfl Try.func79 (by kernel_rfl) rfl #[.slice Ao24 t240.length co24, .slice Ao25 t243.length co25, .slice Ao26 t246.length co26] rfl (by (try simp only [List.map_toArray, List.map_cons, List.map_nil]); first | done | rfl) ?_; (with_reducible refine (spec_ClosedForm.calls k _ _ t240 _ _ t243 _ _ t246 t249 t250 _ ?side1 ?side2 ?side3 ?side4 ?side5 ?side6 A14.out).mono ?_); (case side1 => exact (Kd.R_reads' HO242.out).2.2); (case side2 => exact (Kd.R_reads' HO242.out).2.1); (case side3 => exact (Kd.R_reads' HO245.out).2.2); (case side4 => exact (Kd.R_reads' HO245.out).2.1); (case side5 => exact (Kd.S_reads' HO248.out).2.2); (case side6 => exact (Kd.S_reads' HO248.out).2.1); rintro e w27 ⟨v251, rfl, ho0, hb⟩; refine ⟨_, rfl, ?_⟩; have n0_ := Aside0.mk (Kd.R_below (by exact HO242.out) hb); have n1_ := Aside0.mk (Kd.R_elder' (by exact HO245.out) (Kd.R_base ho0) hb); have n2_ := Aside0.mk (Kd.S_elder' (by exact HO248.out) (Kd.R_base ho0) hb); have n3_ := Aside0.mk (Kd.R_lower (Kd.R_new' ho0 (Kd.R_lt (by exact HO245.out))) (below_size (by repeat (first | exact HB.out | apply below_alloc | apply pw_below_drewN | apply below_drew1)))); have n4_ := Aside0.mk (below_step (by repeat (first | exact HB.out | apply below_alloc | apply pw_below_drewN | apply below_drew1)) hb); clear HO242; clear HO245; clear HO248; clear HB; have HO242 := n0_; have HO245 := n1_; have HO248 := n2_; have HO252 := n3_; have HB := n4_; clear n0_ n1_ n2_ n3_ n4_; (try clear hb); (try clear hb2); (try clear hk); (try clear hi); (try clear ho0)) | ((with_reducible refine gate_callee (f := 17) rfl ?_); refine goesL_ (some 44) rfl rfl Try.func17 (by kernel_rfl) rfl #[.slice A0 l0.length c0] rfl (by (try simp only [List.map_toArray, List.map_cons, List.map_nil]); first | done | rfl) ?_; (with_reducible refine (laws_toSyllableS.calls k _ _ l0 t253 _ ?side1 ?side2 A15.out).mono ?_); (case side1 => exact (Kd.C_below HR0.out HB.out)); (case side2 => exact HC0.out); rintro e w28 ⟨v254, rfl, ho0, hb⟩; refine ⟨_, rfl, ?_⟩; have n0_ := Aside0.mk (Kd.R_elder' (by exact HO242.out) (Kd.R_base ho0) hb); have n1_ := Aside0.mk (Kd.R_below (by exact HO245.out) hb); have n2_ := Aside0.mk (Kd.S_below (by exact HO248.out) hb); have n3_ := Aside0.mk (Kd.R_below (by exact HO252.out) hb); have n4_ := Aside0.mk (Kd.R_lower (Kd.R_new' ho0 (Kd.R_lt (by exact HO242.out))) (below_size (by repeat (first | exact HB.out | apply below_alloc | apply pw_below_drewN | apply below_drew1)))); have n5_ := Aside0.mk (below_step (by repeat (first | exact HB.out | apply below_alloc | apply pw_below_drewN | apply below_drew1)) hb); clear HO242; clear HO245; clear HO248; clear HO252; clear HB; have HO242 := n0_; have HO245 := n1_; have HO248 := n2_; have HO252 := n3_; have HO255 := n4_; have HB := n5_; clear n0_ n1_ n2_ n3_ n4_ n5_; (try clear hb); (try clear hb2); (try clear hk); (try clear hi); (try clear ho0)) | ((with_reducible refine gate_callee (f := 18) rfl ?_); refine goesL_ (some 46) rfl rfl Try.func18 (by kernel_rfl) rfl #[.slice A1 l1.length c1] rfl (by (try simp only [List.map_toArray, List.map_cons, List.map_nil]); first | done | rfl) ?_; (with_reducible refine (laws_toInt64S.calls k _ _ l1 t256 _ ?side1 ?side2 A16.out).mono ?_); (case side1 => exact (Kd.C_below HR1.out HB.out)); (case side2 => exact HC1.out); rintro e w29 ⟨v257, rfl, ho0, hb⟩; refine ⟨_, rfl, ?_⟩; have n0_ := Aside0.mk (Kd.R_below (by exact HO242.out) hb); have n1_ := Aside0.mk (Kd.R_elder' (by exact HO245.out) (Kd.R_base ho0) hb); have n2_ := Aside0.mk (Kd.S_elder' (by exact HO248.out) (Kd.R_base ho0) hb); have n3_ := Aside0.mk (Kd.R_elder' (by exact HO252.out) (Kd.R_base ho0) hb); have n4_ := Aside0.mk (Kd.R_below (by exact HO255.out) hb); have n5_ := Aside0.mk (Kd.R_lower (Kd.R_new' (Kd.R_new' ho0 (Kd.R_lt (by exact HO245.out))) (Kd.R_lt (by exact HO252.out))) (below_size (by repeat (first | exact HB.out | apply below_alloc | apply pw_below_drewN | apply below_drew1)))); have n6_ := Aside0.mk (below_step (by repeat (first | exact HB.out | apply below_alloc | apply pw_below_drewN | apply below_drew1)) hb); clear HO242; clear HO245; clear HO248; clear HO252; clear HO255; clear HB; have HO242 := n0_; have HO245 := n1_; have HO248 := n2_; have HO252 := n3_; have HO255 := n4_; have HO258 := n5_; have HB := n6_; clear n0_ n1_ n2_ n3_ n4_ n5_ n6_; (try clear hb); (try clear hb2); (try clear hk); (try clear hi); (try clear ho0)) | ((with_reducible refine gate_callee (f := 80) rfl ?_); refine goesL_ (some 48) rfl rfl Try.func80 (by kernel_rfl) rfl #[.slice A2 l2.length c2] rfl (by (try simp only [List.map_toArray, List.map_cons, List.map_nil]); first | done | rfl) ?_; (with_reducible refine (laws_toInt64SS.calls k _ _ l2 t259 _ ?side1 ?side2 A17.out).mono ?_); (case side1 => exact (Kd.C_below HR2.out HB.out)); (case side2 => exact HC2.out); rintro e w30 ⟨v260, rfl, ho0, hb⟩; refine ⟨_, rfl, ?_⟩; have n0_ := Aside0.mk (Kd.R_below (by exact HO242.out) hb); have n1_ := Aside0.mk (Kd.R_below (by exact HO245.out) hb); have n2_ := Aside0.mk (Kd.S_elder' (by exact HO248.out) (Kd.S_base ho0) hb); have n3_ := Aside0.mk (Kd.R_below (by exact HO252.out) hb); have n4_ := Aside0.mk (Kd.R_below (by exact HO255.out) hb); have n5_ := Aside0.mk (Kd.R_below (by exact HO258.out) hb); have n6_ := Aside0.mk (Kd.S_lower (Kd.S_new' (Kd.S_new' (Kd.S_new' (Kd.S_new' ho0 (Kd.R_lt (by exact HO245.out))) (Kd.S_lt (by exact HO248.out))) (Kd.R_lt (by exact HO252.out))) (Kd.R_lt (by exact HO258.out))) (below_size (by repeat (first | exact HB.out | apply below_alloc | apply pw_below_drewN | apply below_drew1)))); have n7_ := Aside0.mk (below_step (by repeat (first | exact HB.out | apply below_alloc | apply pw_below_drewN | apply below_drew1)) hb); clear HO242; clear HO245; clear HO248; clear HO252; clear HO255; clear HO258; clear HB; have HO242 := n0_; have HO245 := n1_; have HO248 := n2_; have HO252 := n3_; have HO255 := n4_; have HO258 := n5_; have HO261 := n6_; have HB := n7_; clear n0_ n1_ n2_ n3_ n4_ n5_ n6_ n7_; (try clear hb); (try clear hb2); (try clear hk); (try clear hi); (try clear ho0); obtain ⟨Ao31, co31, eo31⟩ := Kd.R_slice HO255.out; subst eo31; obtain ⟨Ao32, co32, eo32⟩ := Kd.R_slice HO258.out; subst eo32; obtain ⟨Ao33, co33, eo33⟩ := Kd.S_slice HO261.out; subst eo33) | ((with_reducible refine gate_callee (f := 81) rfl ?_); refine goesL_ (some 53) rfl rfl Try.func81 (by kernel_rfl) rfl #[.slice Ao31 t253.length co31, .slice Ao32 t256.length co32, .slice Ao33 t259.length co33] rfl (by (try simp only [List.map_toArray, List.map_cons, List.map_nil]); first | done | rfl) ?_; (with_reducible refine (impl_ClosedForm.calls k _ _ t253 _ _ t256 _ _ t259 t262 t263 _ ?side1 ?side2 ?side3 ?side4 ?side5 ?side6 A18.out).mono ?_); (case side1 => exact (Kd.R_reads' HO255.out).2.2); (case side2 => exact (Kd.R_reads' HO255.out).2.1); (case side3 => exact (Kd.R_reads' HO258.out).2.2); (case side4 => exact (Kd.R_reads' HO258.out).2.1); (case side5 => exact (Kd.S_reads' HO261.out).2.2); (case side6 => exact (Kd.S_reads' HO261.out).2.1); rintro e w34 ⟨v264, rfl, ho0, hb⟩; refine ⟨_, rfl, ?_⟩; have n0_ := Aside0.mk (Kd.R_below (by exact HO242.out) hb); have n1_ := Aside0.mk (Kd.R_elder' (by exact HO245.out) (Kd.R_base ho0) hb); have n2_ := Aside0.mk (Kd.S_elder' (by exact HO248.out) (Kd.R_base ho0) hb); have n3_ := Aside0.mk (Kd.R_elder' (by exact HO252.out) (Kd.R_base ho0) hb); have n4_ := Aside0.mk (Kd.R_below (by exact HO255.out) hb); have n5_ := Aside0.mk (Kd.R_elder' (by exact HO258.out) (Kd.R_base ho0) hb); have n6_ := Aside0.mk (Kd.S_elder' (by exact HO261.out) (Kd.R_base ho0) hb); have n7_ := Aside0.mk (Kd.R_lower (Kd.R_new' (Kd.R_new' (Kd.R_new' ho0 (Kd.R_lt (by exact HO245.out))) (Kd.R_lt (by exact HO252.out))) (Kd.R_lt (by exact HO258.out))) (below_size (by repeat (first | exact HB.out | apply below_alloc | apply pw_below_drewN | apply below_drew1)))); have n8_ := Aside0.mk (below_step (by repeat (first | exact HB.out | apply below_alloc | apply pw_below_drewN | apply below_drew1)) hb); clear HO242; clear HO245; clear HO248; clear HO252; clear HO255; clear HO258; clear HO261; clear HB; have HO242 := n0_; have HO245 := n1_; have HO248 := n2_; have HO252 := n3_; have HO255 := n4_; have HO258 := n5_; have HO261 := n6_; have HO265 := n7_; have HB := n8_; clear n0_ n1_ n2_ n3_ n4_ n5_ n6_ n7_ n8_; (try clear hb); (try clear hb2); (try clear hk); (try clear hi); (try clear ho0)))
    (try simp only [Act.put, s0_, s1_, s2_])
    go_cut [64] (fun v64 wc => ∃ (kq : Nat) (x64_18 : Bool), v64 = .bool x64_18 ∧ Aside0 (laws_FnExactClosedForm.j0 kq l0 l1 l2 t249 t250 t253 t256 t259 t262 t263 x64_18 = some r) ∧ Aside0 (kq ≤ k) ∧ Aside0 (Kd.R (Kd.int .i64) 2 wc w.heap.size (fun k_ => some k_ ≠ ((.slice Ao32 t256.length co32) : Value).ownBlock ∧ some k_ ≠ (v264 : Value).ownBlock) v251 t249) ∧ Aside0 (Kd.R k103 103 wc w.heap.size (fun _ => True) (.slice Ao31 t253.length co31) t253) ∧ Aside0 (Kd.R (Kd.int .i64) 2 wc w.heap.size (fun k_ => some k_ ≠ (v251 : Value).ownBlock ∧ some k_ ≠ (v264 : Value).ownBlock) (.slice Ao32 t256.length co32) t256) ∧ Aside0 (Kd.S (Kd.slice 2 (Kd.int .i64)) 23 wc w.heap.size (fun k_ => some k_ ≠ (v251 : Value).ownBlock ∧ some k_ ≠ ((.slice Ao32 t256.length co32) : Value).ownBlock ∧ some k_ ≠ (v264 : Value).ownBlock) (.slice Ao33 t259.length co33) t259) ∧ Aside0 (Kd.R (Kd.int .i64) 2 wc w.heap.size (fun k_ => some k_ ≠ (v251 : Value).ownBlock ∧ some k_ ≠ ((.slice Ao32 t256.length co32) : Value).ownBlock) v264 t262) ∧ Aside0 (Below w.heap.size w wc))
    case first =>
     have H := HC19.out
     clear HC19
     replace H := Option.bind_eq_some_iff.mp H
     obtain ⟨t266, A350, H⟩ := H
     replace H : (if t266 = true then (laws_FnExactClosedForm.j0 k l0 l1 l2 t249 t250 t253 t256 t259 t262 t263 (t263 != t250)) else (laws_FnExactClosedForm.j0 k l0 l1 l2 t249 t250 t253 t256 t259 t262 t263 true)) = some r := H
     have A35 := Aside0.mk A350
     clear A350
     by_cases c36 : t266 = true
     rotate_left
     ·replace c36 := Bool.eq_false_iff.mpr c36
      subst c36
      have H1 : (laws_FnExactClosedForm.j0 k l0 l1 l2 t249 t250 t253 t256 t259 t262 t263 true) = some r := by rw [if_neg (show ¬ (false = true) by decide)] at H; exact H
      clear H
      have H := H1
      clear H1
      have H' := Aside0.mk H
      clear H
      obtain ⟨Ao39, co39, eo39⟩ := Kd.R_slice HO265.out
      subst eo39
      obtain ⟨Ao40, co40, eo40⟩ := Kd.R_slice HO252.out
      subst eo40
      go_wp2_with (first | ((with_reducible refine gate_callee (f := 20) rfl ?_); refine goesL_ (some 58) rfl rfl Try.func20 (by kernel_rfl) rfl #[.slice Ao39 t262.length co39, .slice Ao40 t249.length co40] rfl (by (try simp only [List.map_toArray, List.map_cons, List.map_nil]); first | done | rfl) ?_; (with_reducible refine (laws_eqInt64S.calls k _ _ t262 _ _ t249 false _ ?side1 ?side2 ?side3 ?side4 A35.out).mono ?_); (case side1 => exact (Kd.R_reads' HO265.out).2.2); (case side2 => exact (Kd.R_reads' HO265.out).2.1); (case side3 => exact (Kd.R_reads' HO252.out).2.2); (case side4 => exact (Kd.R_reads' HO252.out).2.1); rintro e w' ⟨rfl, ⟨nd, rfl⟩⟩; refine ⟨_, rfl, ?_⟩))
      go_meet
      case rel => exact ⟨_, (true), (by first | rfl | (simp; done) | (simp [*]; done)), H', ⟨by first | omega | exact Nat.le_refl _⟩, ⟨by exact Kd.R_mono HO252.out (fun _ hk => ⟨hk.1.2, hk.2⟩)⟩, ⟨by exact Kd.R_mono HO255.out (fun _ hk => trivial)⟩, ⟨by exact Kd.R_mono HO258.out (fun _ hk => ⟨hk.1.2, hk.2⟩)⟩, ⟨by exact Kd.S_mono HO261.out (fun _ hk => ⟨hk.1.1.2, ⟨hk.1.2, hk.2⟩⟩)⟩, ⟨by exact Kd.R_mono HO265.out (fun _ hk => ⟨hk.1.2, hk.2⟩)⟩, ⟨by repeat (first | exact HB.out | apply below_alloc | apply pw_below_drewN | apply below_drew1)⟩⟩
     subst c36
     have H1 : (laws_FnExactClosedForm.j0 k l0 l1 l2 t249 t250 t253 t256 t259 t262 t263 (t263 != t250)) = some r := by rw [if_pos rfl] at H; exact H
     clear H
     have H := H1
     clear H1
     have H' := Aside0.mk H
     clear H
     obtain ⟨Ao37, co37, eo37⟩ := Kd.R_slice HO265.out
     subst eo37
     obtain ⟨Ao38, co38, eo38⟩ := Kd.R_slice HO252.out
     subst eo38
     go_wp2_with (first | ((with_reducible refine gate_callee (f := 20) rfl ?_); refine goesL_ (some 58) rfl rfl Try.func20 (by kernel_rfl) rfl #[.slice Ao37 t262.length co37, .slice Ao38 t249.length co38] rfl (by (try simp only [List.map_toArray, List.map_cons, List.map_nil]); first | done | rfl) ?_; (with_reducible refine (laws_eqInt64S.calls k _ _ t262 _ _ t249 true _ ?side1 ?side2 ?side3 ?side4 A35.out).mono ?_); (case side1 => exact (Kd.R_reads' HO265.out).2.2); (case side2 => exact (Kd.R_reads' HO265.out).2.1); (case side3 => exact (Kd.R_reads' HO252.out).2.2); (case side4 => exact (Kd.R_reads' HO252.out).2.1); rintro e w' ⟨rfl, ⟨nd, rfl⟩⟩; refine ⟨_, rfl, ?_⟩))
     go_meet
     case rel => exact ⟨_, ((t263 != t250)), (by first | rfl | (simp; done) | (simp [*]; done)), H', ⟨by first | omega | exact Nat.le_refl _⟩, ⟨by exact Kd.R_mono HO252.out (fun _ hk => ⟨hk.1.2, hk.2⟩)⟩, ⟨by exact Kd.R_mono HO255.out (fun _ hk => trivial)⟩, ⟨by exact Kd.R_mono HO258.out (fun _ hk => ⟨hk.1.2, hk.2⟩)⟩, ⟨by exact Kd.S_mono HO261.out (fun _ hk => ⟨hk.1.1.2, ⟨hk.1.2, hk.2⟩⟩)⟩, ⟨by exact Kd.R_mono HO265.out (fun _ hk => ⟨hk.1.2, hk.2⟩)⟩, ⟨by repeat (first | exact HB.out | apply below_alloc | apply pw_below_drewN | apply below_drew1)⟩⟩
    case rest =>
     clear HC19
     try clear c1
     try clear c2
     try clear p2
     try clear c3
     try clear c4
     try clear c4b0
     try clear c4b1
     try clear c6
     try clear c6b0
     try clear c7
     try clear c8
     try clear c9
     try clear c9b0
     try clear c12
     try clear c15
     try clear c17
     try clear c18
     try clear c20
     try clear c36
     obtain ⟨kq, x64_18, rfl, HA, HJ18, HO_8, HO_10, HO_11, HO_12, HO_13, HB⟩ := hcut
     cases kq with
     | zero => exact absurd HA.out (by simp [laws_FnExactClosedForm.j0])
     | succ kj18 =>
      have H := HA.out
      clear HA
      simp only [laws_FnExactClosedForm.j0] at H
      by_cases c41 : x64_18 = true
      rotate_left
      ·replace c41 := Bool.eq_false_iff.mpr c41
       subst c41
       have H1 : ((laws_toSyllableS.f kj18 l0).bind fun t267 => ((laws_eqSyllableS.f kj18 t253 t267).bind fun t270 => (if t270 = true then ((laws_toInt64S.f kj18 l1).bind fun t271 => ((laws_eqInt64S.f kj18 t256 t271).bind fun t274 => (if t274 = true then ((laws_toInt64SS.f kj18 l2).bind fun t275 => ((laws_eqInt64SS.f kj18 t259 t275).bind fun t278 => (if t278 = true then ((laws_markSyllableS.f kj18 t253 1).bind fun bt279 => ((laws_markInt64S.f kj18 t256 bt279.1).bind fun bt281 => ((laws_markInt64SS.f kj18 t259 bt281.1).bind fun bt283 => (if bt283.1 < 0 then (laws_FnExactClosedForm.j1 kj18 l0 l1 l2 t249 t250 t262 true) else ((laws_eqInt64S.f kj18 t262 t249).bind fun t285 => (if t285 = true then (laws_FnExactClosedForm.j1 kj18 l0 l1 l2 t249 t250 t262 (t263 != t250)) else (laws_FnExactClosedForm.j1 kj18 l0 l1 l2 t249 t250 t262 true))))))) else (some false)))) else (some false)))) else (some false)))) = some r := by rw [if_neg (show ¬ (false = true) by decide)] at H; exact H
       clear H
       have H := H1
       clear H1
       replace H := Option.bind_eq_some_iff.mp H
       obtain ⟨t267, A420, H⟩ := H
       replace H : ((laws_eqSyllableS.f kj18 t253 t267).bind fun t270 => (if t270 = true then ((laws_toInt64S.f kj18 l1).bind fun t271 => ((laws_eqInt64S.f kj18 t256 t271).bind fun t274 => (if t274 = true then ((laws_toInt64SS.f kj18 l2).bind fun t275 => ((laws_eqInt64SS.f kj18 t259 t275).bind fun t278 => (if t278 = true then ((laws_markSyllableS.f kj18 t253 1).bind fun bt279 => ((laws_markInt64S.f kj18 t256 bt279.1).bind fun bt281 => ((laws_markInt64SS.f kj18 t259 bt281.1).bind fun bt283 => (if bt283.1 < 0 then (laws_FnExactClosedForm.j1 kj18 l0 l1 l2 t249 t250 t262 true) else ((laws_eqInt64S.f kj18 t262 t249).bind fun t285 => (if t285 = true then (laws_FnExactClosedForm.j1 kj18 l0 l1 l2 t249 t250 t262 (t263 != t250)) else (laws_FnExactClosedForm.j1 kj18 l0 l1 l2 t249 t250 t262 true))))))) else (some false)))) else (some false)))) else (some false))) = some r := H
       have A42 := Aside0.mk A420
       clear A420
       replace H := Option.bind_eq_some_iff.mp H
       obtain ⟨t270, A430, H⟩ := H
       replace H : (if t270 = true then ((laws_toInt64S.f kj18 l1).bind fun t271 => ((laws_eqInt64S.f kj18 t256 t271).bind fun t274 => (if t274 = true then ((laws_toInt64SS.f kj18 l2).bind fun t275 => ((laws_eqInt64SS.f kj18 t259 t275).bind fun t278 => (if t278 = true then ((laws_markSyllableS.f kj18 t253 1).bind fun bt279 => ((laws_markInt64S.f kj18 t256 bt279.1).bind fun bt281 => ((laws_markInt64SS.f kj18 t259 bt281.1).bind fun bt283 => (if bt283.1 < 0 then (laws_FnExactClosedForm.j1 kj18 l0 l1 l2 t249 t250 t262 true) else ((laws_eqInt64S.f kj18 t262 t249).bind fun t285 => (if t285 = true then (laws_FnExactClosedForm.j1 kj18 l0 l1 l2 t249 t250 t262 (t263 != t250)) else (laws_FnExactClosedForm.j1 kj18 l0 l1 l2 t249 t250 t262 true))))))) else (some false)))) else (some false)))) else (some false)) = some r := H
       have A43 := Aside0.mk A430
       clear A430
       by_cases c44 : t270 = true
       rotate_left
       ·replace c44 := Bool.eq_false_iff.mpr c44
        subst c44
        have H1 : (some false) = some r := by rw [if_neg (show ¬ (false = true) by decide)] at H; exact H
        clear H
        have H := H1
        clear H1
        obtain rfl := Option.some.inj H
        go_wp2_with (first | ((with_reducible refine gate_callee (f := 17) rfl ?_); refine goesL_ (some 67) rfl rfl Try.func17 (by kernel_rfl) rfl #[.slice A0 l0.length c0] rfl (by (try simp only [List.map_toArray, List.map_cons, List.map_nil]); first | done | rfl) ?_; (with_reducible refine (laws_toSyllableS.calls kj18 _ _ l0 t267 _ ?side1 ?side2 A42.out).mono ?_); (case side1 => exact (Kd.C_below HR0.out HB.out)); (case side2 => exact HC0.out); rintro e w117 ⟨v268, rfl, ho0, hb⟩; refine ⟨_, rfl, ?_⟩; have n0_ := Aside0.mk (Kd.R_below (by exact HO_8.out) hb); have n1_ := Aside0.mk (Kd.R_elder' (by exact HO_10.out) (Kd.R_base ho0) hb); have n2_ := Aside0.mk (Kd.R_below (by exact HO_11.out) hb); have n3_ := Aside0.mk (Kd.S_below (by exact HO_12.out) hb); have n4_ := Aside0.mk (Kd.R_below (by exact HO_13.out) hb); have n5_ := Aside0.mk (Kd.R_lower (Kd.R_new' ho0 (Kd.R_lt (by exact HO_10.out))) (below_size (by repeat (first | exact HB.out | apply below_alloc | apply pw_below_drewN | apply below_drew1)))); have n6_ := Aside0.mk (below_step (by repeat (first | exact HB.out | apply below_alloc | apply pw_below_drewN | apply below_drew1)) hb); clear HO_8; clear HO_10; clear HO_11; clear HO_12; clear HO_13; clear HB; have HO_8 := n0_; have HO_10 := n1_; have HO_11 := n2_; have HO_12 := n3_; have HO_13 := n4_; have HO269 := n5_; have HB := n6_; clear n0_ n1_ n2_ n3_ n4_ n5_ n6_; (try clear hb); (try clear hb2); (try clear hk); (try clear hi); (try clear ho0); obtain ⟨Ao118, co118, eo118⟩ := Kd.R_slice HO269.out; subst eo118) | ((with_reducible refine gate_callee (f := 21) rfl ?_); refine goesL_ (some 68) rfl rfl Try.func21 (by kernel_rfl) rfl #[.slice Ao31 t253.length co31, .slice Ao118 t267.length co118] rfl (by (try simp only [List.map_toArray, List.map_cons, List.map_nil]); first | done | rfl) ?_; (with_reducible refine (laws_eqSyllableS.calls kj18 _ _ t253 _ _ t267 false _ ?side1 ?side2 ?side3 ?side4 A43.out).mono ?_); (case side1 => exact (Kd.R_reads' HO_10.out).2.2); (case side2 => exact (Kd.R_reads' HO_10.out).2.1); (case side3 => exact (Kd.R_reads' HO269.out).2.2); (case side4 => exact (Kd.R_reads' HO269.out).2.1); rintro e w119 ⟨rfl, hb⟩; refine ⟨_, rfl, ?_⟩; have n0_ := Aside0.mk (Kd.R_below (by exact HO_8.out) hb); have n1_ := Aside0.mk (Kd.R_below (by exact HO_10.out) hb); have n2_ := Aside0.mk (Kd.R_below (by exact HO_11.out) hb); have n3_ := Aside0.mk (Kd.S_below (by exact HO_12.out) hb); have n4_ := Aside0.mk (Kd.R_below (by exact HO_13.out) hb); have n5_ := Aside0.mk (Kd.R_below (by exact HO269.out) hb); have n6_ := Aside0.mk (below_step (by repeat (first | exact HB.out | apply below_alloc | apply pw_below_drewN | apply below_drew1)) hb); clear HO_8; clear HO_10; clear HO_11; clear HO_12; clear HO_13; clear HO269; clear HB; have HO_8 := n0_; have HO_10 := n1_; have HO_11 := n2_; have HO_12 := n3_; have HO_13 := n4_; have HO269 := n5_; have HB := n6_; clear n0_ n1_ n2_ n3_ n4_ n5_ n6_; (try clear hb); (try clear hb2); (try clear hk); (try clear hi)))
        go_ret
        exact ⟨by first | rfl | (simp [errW_none, errW_some] <;> rfl) | (simp [*, errW_none, errW_some] <;> rfl), by repeat (first | exact HB.out | apply below_alloc | apply pw_below_drewN | apply below_drew1)⟩
       subst c44
       have H1 : ((laws_toInt64S.f kj18 l1).bind fun t271 => ((laws_eqInt64S.f kj18 t256 t271).bind fun t274 => (if t274 = true then ((laws_toInt64SS.f kj18 l2).bind fun t275 => ((laws_eqInt64SS.f kj18 t259 t275).bind fun t278 => (if t278 = true then ((laws_markSyllableS.f kj18 t253 1).bind fun bt279 => ((laws_markInt64S.f kj18 t256 bt279.1).bind fun bt281 => ((laws_markInt64SS.f kj18 t259 bt281.1).bind fun bt283 => (if bt283.1 < 0 then (laws_FnExactClosedForm.j1 kj18 l0 l1 l2 t249 t250 t262 true) else ((laws_eqInt64S.f kj18 t262 t249).bind fun t285 => (if t285 = true then (laws_FnExactClosedForm.j1 kj18 l0 l1 l2 t249 t250 t262 (t263 != t250)) else (laws_FnExactClosedForm.j1 kj18 l0 l1 l2 t249 t250 t262 true))))))) else (some false)))) else (some false)))) = some r := by rw [if_pos rfl] at H; exact H
       clear H
       have H := H1
       clear H1
       replace H := Option.bind_eq_some_iff.mp H
       obtain ⟨t271, A450, H⟩ := H
       replace H : ((laws_eqInt64S.f kj18 t256 t271).bind fun t274 => (if t274 = true then ((laws_toInt64SS.f kj18 l2).bind fun t275 => ((laws_eqInt64SS.f kj18 t259 t275).bind fun t278 => (if t278 = true then ((laws_markSyllableS.f kj18 t253 1).bind fun bt279 => ((laws_markInt64S.f kj18 t256 bt279.1).bind fun bt281 => ((laws_markInt64SS.f kj18 t259 bt281.1).bind fun bt283 => (if bt283.1 < 0 then (laws_FnExactClosedForm.j1 kj18 l0 l1 l2 t249 t250 t262 true) else ((laws_eqInt64S.f kj18 t262 t249).bind fun t285 => (if t285 = true then (laws_FnExactClosedForm.j1 kj18 l0 l1 l2 t249 t250 t262 (t263 != t250)) else (laws_FnExactClosedForm.j1 kj18 l0 l1 l2 t249 t250 t262 true))))))) else (some false)))) else (some false))) = some r := H
       have A45 := Aside0.mk A450
       clear A450
       replace H := Option.bind_eq_some_iff.mp H
       obtain ⟨t274, A460, H⟩ := H
       replace H : (if t274 = true then ((laws_toInt64SS.f kj18 l2).bind fun t275 => ((laws_eqInt64SS.f kj18 t259 t275).bind fun t278 => (if t278 = true then ((laws_markSyllableS.f kj18 t253 1).bind fun bt279 => ((laws_markInt64S.f kj18 t256 bt279.1).bind fun bt281 => ((laws_markInt64SS.f kj18 t259 bt281.1).bind fun bt283 => (if bt283.1 < 0 then (laws_FnExactClosedForm.j1 kj18 l0 l1 l2 t249 t250 t262 true) else ((laws_eqInt64S.f kj18 t262 t249).bind fun t285 => (if t285 = true then (laws_FnExactClosedForm.j1 kj18 l0 l1 l2 t249 t250 t262 (t263 != t250)) else (laws_FnExactClosedForm.j1 kj18 l0 l1 l2 t249 t250 t262 true))))))) else (some false)))) else (some false)) = some r := H
       have A46 := Aside0.mk A460
       clear A460
       by_cases c47 : t274 = true
       rotate_left
       ·replace c47 := Bool.eq_false_iff.mpr c47
        subst c47
        have H1 : (some false) = some r := by rw [if_neg (show ¬ (false = true) by decide)] at H; exact H
        clear H
        have H := H1
        clear H1
        obtain rfl := Option.some.inj H
        go_wp2_with (first | ((with_reducible refine gate_callee (f := 17) rfl ?_); refine goesL_ (some 67) rfl rfl Try.func17 (by kernel_rfl) rfl #[.slice A0 l0.length c0] rfl (by (try simp only [List.map_toArray, List.map_cons, List.map_nil]); first | done | rfl) ?_; (with_reducible refine (laws_toSyllableS.calls kj18 _ _ l0 t267 _ ?side1 ?side2 A42.out).mono ?_); (case side1 => exact (Kd.C_below HR0.out HB.out)); (case side2 => exact HC0.out); rintro e w112 ⟨v268, rfl, ho0, hb⟩; refine ⟨_, rfl, ?_⟩; have n0_ := Aside0.mk (Kd.R_below (by exact HO_8.out) hb); have n1_ := Aside0.mk (Kd.R_elder' (by exact HO_10.out) (Kd.R_base ho0) hb); have n2_ := Aside0.mk (Kd.R_below (by exact HO_11.out) hb); have n3_ := Aside0.mk (Kd.S_below (by exact HO_12.out) hb); have n4_ := Aside0.mk (Kd.R_below (by exact HO_13.out) hb); have n5_ := Aside0.mk (Kd.R_lower (Kd.R_new' ho0 (Kd.R_lt (by exact HO_10.out))) (below_size (by repeat (first | exact HB.out | apply below_alloc | apply pw_below_drewN | apply below_drew1)))); have n6_ := Aside0.mk (below_step (by repeat (first | exact HB.out | apply below_alloc | apply pw_below_drewN | apply below_drew1)) hb); clear HO_8; clear HO_10; clear HO_11; clear HO_12; clear HO_13; clear HB; have HO_8 := n0_; have HO_10 := n1_; have HO_11 := n2_; have HO_12 := n3_; have HO_13 := n4_; have HO269 := n5_; have HB := n6_; clear n0_ n1_ n2_ n3_ n4_ n5_ n6_; (try clear hb); (try clear hb2); (try clear hk); (try clear hi); (try clear ho0); obtain ⟨Ao113, co113, eo113⟩ := Kd.R_slice HO269.out; subst eo113) | ((with_reducible refine gate_callee (f := 21) rfl ?_); refine goesL_ (some 68) rfl rfl Try.func21 (by kernel_rfl) rfl #[.slice Ao31 t253.length co31, .slice Ao113 t267.length co113] rfl (by (try simp only [List.map_toArray, List.map_cons, List.map_nil]); first | done | rfl) ?_; (with_reducible refine (laws_eqSyllableS.calls kj18 _ _ t253 _ _ t267 true _ ?side1 ?side2 ?side3 ?side4 A43.out).mono ?_); (case side1 => exact (Kd.R_reads' HO_10.out).2.2); (case side2 => exact (Kd.R_reads' HO_10.out).2.1); (case side3 => exact (Kd.R_reads' HO269.out).2.2); (case side4 => exact (Kd.R_reads' HO269.out).2.1); rintro e w114 ⟨rfl, hb⟩; refine ⟨_, rfl, ?_⟩; have n0_ := Aside0.mk (Kd.R_below (by exact HO_8.out) hb); have n1_ := Aside0.mk (Kd.R_below (by exact HO_10.out) hb); have n2_ := Aside0.mk (Kd.R_below (by exact HO_11.out) hb); have n3_ := Aside0.mk (Kd.S_below (by exact HO_12.out) hb); have n4_ := Aside0.mk (Kd.R_below (by exact HO_13.out) hb); have n5_ := Aside0.mk (Kd.R_below (by exact HO269.out) hb); have n6_ := Aside0.mk (below_step (by repeat (first | exact HB.out | apply below_alloc | apply pw_below_drewN | apply below_drew1)) hb); clear HO_8; clear HO_10; clear HO_11; clear HO_12; clear HO_13; clear HO269; clear HB; have HO_8 := n0_; have HO_10 := n1_; have HO_11 := n2_; have HO_12 := n3_; have HO_13 := n4_; have HO269 := n5_; have HB := n6_; clear n0_ n1_ n2_ n3_ n4_ n5_ n6_; (try clear hb); (try clear hb2); (try clear hk); (try clear hi)) | ((with_reducible refine gate_callee (f := 18) rfl ?_); refine goesL_ (some 72) rfl rfl Try.func18 (by kernel_rfl) rfl #[.slice A1 l1.length c1] rfl (by (try simp only [List.map_toArray, List.map_cons, List.map_nil]); first | done | rfl) ?_; (with_reducible refine (laws_toInt64S.calls kj18 _ _ l1 t271 _ ?side1 ?side2 A45.out).mono ?_); (case side1 => exact (Kd.C_below HR1.out HB.out)); (case side2 => exact HC1.out); rintro e w115 ⟨v272, rfl, ho0, hb⟩; refine ⟨_, rfl, ?_⟩; have n0_ := Aside0.mk (Kd.R_elder' (by exact HO_8.out) (Kd.R_base ho0) hb); have n1_ := Aside0.mk (Kd.R_below (by exact HO_10.out) hb); have n2_ := Aside0.mk (Kd.R_elder' (by exact HO_11.out) (Kd.R_base ho0) hb); have n3_ := Aside0.mk (Kd.S_elder' (by exact HO_12.out) (Kd.R_base ho0) hb); have n4_ := Aside0.mk (Kd.R_elder' (by exact HO_13.out) (Kd.R_base ho0) hb); have n5_ := Aside0.mk (Kd.R_below (by exact HO269.out) hb); have n6_ := Aside0.mk (Kd.R_lower (Kd.R_new' (Kd.R_new' (Kd.R_new' ho0 (Kd.R_lt (by exact HO_8.out))) (Kd.R_lt (by exact HO_11.out))) (Kd.R_lt (by exact HO_13.out))) (below_size (by repeat (first | exact HB.out | apply below_alloc | apply pw_below_drewN | apply below_drew1)))); have n7_ := Aside0.mk (below_step (by repeat (first | exact HB.out | apply below_alloc | apply pw_below_drewN | apply below_drew1)) hb); clear HO_8; clear HO_10; clear HO_11; clear HO_12; clear HO_13; clear HO269; clear HB; have HO_8 := n0_; have HO_10 := n1_; have HO_11 := n2_; have HO_12 := n3_; have HO_13 := n4_; have HO269 := n5_; have HO273 := n6_; have HB := n7_; clear n0_ n1_ n2_ n3_ n4_ n5_ n6_ n7_; (try clear hb); (try clear hb2); (try clear hk); (try clear hi); (try clear ho0); obtain ⟨Ao116, co116, eo116⟩ := Kd.R_slice HO273.out; subst eo116) | ((with_reducible refine gate_callee (f := 20) rfl ?_); refine goesL_ (some 73) rfl rfl Try.func20 (by kernel_rfl) rfl #[.slice Ao32 t256.length co32, .slice Ao116 t271.length co116] rfl (by (try simp only [List.map_toArray, List.map_cons, List.map_nil]); first | done | rfl) ?_; (with_reducible refine (laws_eqInt64S.calls kj18 _ _ t256 _ _ t271 false _ ?side1 ?side2 ?side3 ?side4 A46.out).mono ?_); (case side1 => exact (Kd.R_reads' HO_11.out).2.2); (case side2 => exact (Kd.R_reads' HO_11.out).2.1); (case side3 => exact (Kd.R_reads' HO273.out).2.2); (case side4 => exact (Kd.R_reads' HO273.out).2.1); rintro e w' ⟨rfl, ⟨nd, rfl⟩⟩; refine ⟨_, rfl, ?_⟩))
        go_ret
        exact ⟨by first | rfl | (simp [errW_none, errW_some] <;> rfl) | (simp [*, errW_none, errW_some] <;> rfl), by repeat (first | exact HB.out | apply below_alloc | apply pw_below_drewN | apply below_drew1)⟩
       subst c47
       have H1 : ((laws_toInt64SS.f kj18 l2).bind fun t275 => ((laws_eqInt64SS.f kj18 t259 t275).bind fun t278 => (if t278 = true then ((laws_markSyllableS.f kj18 t253 1).bind fun bt279 => ((laws_markInt64S.f kj18 t256 bt279.1).bind fun bt281 => ((laws_markInt64SS.f kj18 t259 bt281.1).bind fun bt283 => (if bt283.1 < 0 then (laws_FnExactClosedForm.j1 kj18 l0 l1 l2 t249 t250 t262 true) else ((laws_eqInt64S.f kj18 t262 t249).bind fun t285 => (if t285 = true then (laws_FnExactClosedForm.j1 kj18 l0 l1 l2 t249 t250 t262 (t263 != t250)) else (laws_FnExactClosedForm.j1 kj18 l0 l1 l2 t249 t250 t262 true))))))) else (some false)))) = some r := by rw [if_pos rfl] at H; exact H
       clear H
       have H := H1
       clear H1
       replace H := Option.bind_eq_some_iff.mp H
       obtain ⟨t275, A480, H⟩ := H
       replace H : ((laws_eqInt64SS.f kj18 t259 t275).bind fun t278 => (if t278 = true then ((laws_markSyllableS.f kj18 t253 1).bind fun bt279 => ((laws_markInt64S.f kj18 t256 bt279.1).bind fun bt281 => ((laws_markInt64SS.f kj18 t259 bt281.1).bind fun bt283 => (if bt283.1 < 0 then (laws_FnExactClosedForm.j1 kj18 l0 l1 l2 t249 t250 t262 true) else ((laws_eqInt64S.f kj18 t262 t249).bind fun t285 => (if t285 = true then (laws_FnExactClosedForm.j1 kj18 l0 l1 l2 t249 t250 t262 (t263 != t250)) else (laws_FnExactClosedForm.j1 kj18 l0 l1 l2 t249 t250 t262 true))))))) else (some false))) = some r := H
       have A48 := Aside0.mk A480
       clear A480
       replace H := Option.bind_eq_some_iff.mp H
       obtain ⟨t278, A490, H⟩ := H
       replace H : (if t278 = true then ((laws_markSyllableS.f kj18 t253 1).bind fun bt279 => ((laws_markInt64S.f kj18 t256 bt279.1).bind fun bt281 => ((laws_markInt64SS.f kj18 t259 bt281.1).bind fun bt283 => (if bt283.1 < 0 then (laws_FnExactClosedForm.j1 kj18 l0 l1 l2 t249 t250 t262 true) else ((laws_eqInt64S.f kj18 t262 t249).bind fun t285 => (if t285 = true then (laws_FnExactClosedForm.j1 kj18 l0 l1 l2 t249 t250 t262 (t263 != t250)) else (laws_FnExactClosedForm.j1 kj18 l0 l1 l2 t249 t250 t262 true))))))) else (some false)) = some r := H
       have A49 := Aside0.mk A490
       clear A490
       by_cases c50 : t278 = true
       rotate_left
       ·replace c50 := Bool.eq_false_iff.mpr c50
        subst c50
        have H1 : (some false) = some r := by rw [if_neg (show ¬ (false = true) by decide)] at H; exact H
        clear H
        have H := H1
        clear H1
        obtain rfl := Option.some.inj H
        go_wp2_with (first | ((with_reducible refine gate_callee (f := 17) rfl ?_); refine goesL_ (some 67) rfl rfl Try.func17 (by kernel_rfl) rfl #[.slice A0 l0.length c0] rfl (by (try simp only [List.map_toArray, List.map_cons, List.map_nil]); first | done | rfl) ?_; (with_reducible refine (laws_toSyllableS.calls kj18 _ _ l0 t267 _ ?side1 ?side2 A42.out).mono ?_); (case side1 => exact (Kd.C_below HR0.out HB.out)); (case side2 => exact HC0.out); rintro e w105 ⟨v268, rfl, ho0, hb⟩; refine ⟨_, rfl, ?_⟩; have n0_ := Aside0.mk (Kd.R_below (by exact HO_8.out) hb); have n1_ := Aside0.mk (Kd.R_elder' (by exact HO_10.out) (Kd.R_base ho0) hb); have n2_ := Aside0.mk (Kd.R_below (by exact HO_11.out) hb); have n3_ := Aside0.mk (Kd.S_below (by exact HO_12.out) hb); have n4_ := Aside0.mk (Kd.R_below (by exact HO_13.out) hb); have n5_ := Aside0.mk (Kd.R_lower (Kd.R_new' ho0 (Kd.R_lt (by exact HO_10.out))) (below_size (by repeat (first | exact HB.out | apply below_alloc | apply pw_below_drewN | apply below_drew1)))); have n6_ := Aside0.mk (below_step (by repeat (first | exact HB.out | apply below_alloc | apply pw_below_drewN | apply below_drew1)) hb); clear HO_8; clear HO_10; clear HO_11; clear HO_12; clear HO_13; clear HB; have HO_8 := n0_; have HO_10 := n1_; have HO_11 := n2_; have HO_12 := n3_; have HO_13 := n4_; have HO269 := n5_; have HB := n6_; clear n0_ n1_ n2_ n3_ n4_ n5_ n6_; (try clear hb); (try clear hb2); (try clear hk); (try clear hi); (try clear ho0); obtain ⟨Ao106, co106, eo106⟩ := Kd.R_slice HO269.out; subst eo106) | ((with_reducible refine gate_callee (f := 21) rfl ?_); refine goesL_ (some 68) rfl rfl Try.func21 (by kernel_rfl) rfl #[.slice Ao31 t253.length co31, .slice Ao106 t267.length co106] rfl (by (try simp only [List.map_toArray, List.map_cons, List.map_nil]); first | done | rfl) ?_; (with_reducible refine (laws_eqSyllableS.calls kj18 _ _ t253 _ _ t267 true _ ?side1 ?side2 ?side3 ?side4 A43.out).mono ?_); (case side1 => exact (Kd.R_reads' HO_10.out).2.2); (case side2 => exact (Kd.R_reads' HO_10.out).2.1); (case side3 => exact (Kd.R_reads' HO269.out).2.2); (case side4 => exact (Kd.R_reads' HO269.out).2.1); rintro e w107 ⟨rfl, hb⟩; refine ⟨_, rfl, ?_⟩; have n0_ := Aside0.mk (Kd.R_below (by exact HO_8.out) hb); have n1_ := Aside0.mk (Kd.R_below (by exact HO_10.out) hb); have n2_ := Aside0.mk (Kd.R_below (by exact HO_11.out) hb); have n3_ := Aside0.mk (Kd.S_below (by exact HO_12.out) hb); have n4_ := Aside0.mk (Kd.R_below (by exact HO_13.out) hb); have n5_ := Aside0.mk (Kd.R_below (by exact HO269.out) hb); have n6_ := Aside0.mk (below_step (by repeat (first | exact HB.out | apply below_alloc | apply pw_below_drewN | apply below_drew1)) hb); clear HO_8; clear HO_10; clear HO_11; clear HO_12; clear HO_13; clear HO269; clear HB; have HO_8 := n0_; have HO_10 := n1_; have HO_11 := n2_; have HO_12 := n3_; have HO_13 := n4_; have HO269 := n5_; have HB := n6_; clear n0_ n1_ n2_ n3_ n4_ n5_ n6_; (try clear hb); (try clear hb2); (try clear hk); (try clear hi)) | ((with_reducible refine gate_callee (f := 18) rfl ?_); refine goesL_ (some 72) rfl rfl Try.func18 (by kernel_rfl) rfl #[.slice A1 l1.length c1] rfl (by (try simp only [List.map_toArray, List.map_cons, List.map_nil]); first | done | rfl) ?_; (with_reducible refine (laws_toInt64S.calls kj18 _ _ l1 t271 _ ?side1 ?side2 A45.out).mono ?_); (case side1 => exact (Kd.C_below HR1.out HB.out)); (case side2 => exact HC1.out); rintro e w108 ⟨v272, rfl, ho0, hb⟩; refine ⟨_, rfl, ?_⟩; have n0_ := Aside0.mk (Kd.R_elder' (by exact HO_8.out) (Kd.R_base ho0) hb); have n1_ := Aside0.mk (Kd.R_below (by exact HO_10.out) hb); have n2_ := Aside0.mk (Kd.R_elder' (by exact HO_11.out) (Kd.R_base ho0) hb); have n3_ := Aside0.mk (Kd.S_elder' (by exact HO_12.out) (Kd.R_base ho0) hb); have n4_ := Aside0.mk (Kd.R_elder' (by exact HO_13.out) (Kd.R_base ho0) hb); have n5_ := Aside0.mk (Kd.R_below (by exact HO269.out) hb); have n6_ := Aside0.mk (Kd.R_lower (Kd.R_new' (Kd.R_new' (Kd.R_new' ho0 (Kd.R_lt (by exact HO_8.out))) (Kd.R_lt (by exact HO_11.out))) (Kd.R_lt (by exact HO_13.out))) (below_size (by repeat (first | exact HB.out | apply below_alloc | apply pw_below_drewN | apply below_drew1)))); have n7_ := Aside0.mk (below_step (by repeat (first | exact HB.out | apply below_alloc | apply pw_below_drewN | apply below_drew1)) hb); clear HO_8; clear HO_10; clear HO_11; clear HO_12; clear HO_13; clear HO269; clear HB; have HO_8 := n0_; have HO_10 := n1_; have HO_11 := n2_; have HO_12 := n3_; have HO_13 := n4_; have HO269 := n5_; have HO273 := n6_; have HB := n7_; clear n0_ n1_ n2_ n3_ n4_ n5_ n6_ n7_; (try clear hb); (try clear hb2); (try clear hk); (try clear hi); (try clear ho0); obtain ⟨Ao109, co109, eo109⟩ := Kd.R_slice HO273.out; subst eo109) | ((with_reducible refine gate_callee (f := 20) rfl ?_); refine goesL_ (some 73) rfl rfl Try.func20 (by kernel_rfl) rfl #[.slice Ao32 t256.length co32, .slice Ao109 t271.length co109] rfl (by (try simp only [List.map_toArray, List.map_cons, List.map_nil]); first | done | rfl) ?_; (with_reducible refine (laws_eqInt64S.calls kj18 _ _ t256 _ _ t271 true _ ?side1 ?side2 ?side3 ?side4 A46.out).mono ?_); (case side1 => exact (Kd.R_reads' HO_11.out).2.2); (case side2 => exact (Kd.R_reads' HO_11.out).2.1); (case side3 => exact (Kd.R_reads' HO273.out).2.2); (case side4 => exact (Kd.R_reads' HO273.out).2.1); rintro e w' ⟨rfl, ⟨nd, rfl⟩⟩; refine ⟨_, rfl, ?_⟩) | ((with_reducible refine gate_callee (f := 80) rfl ?_); refine goesL_ (some 77) rfl rfl Try.func80 (by kernel_rfl) rfl #[.slice A2 l2.length c2] rfl (by (try simp only [List.map_toArray, List.map_cons, List.map_nil]); first | done | rfl) ?_; (with_reducible refine (laws_toInt64SS.calls kj18 _ _ l2 t275 _ ?side1 ?side2 A48.out).mono ?_); (case side1 => repeat (first | exact (Kd.C_below HR2.out (by repeat (first | exact HB.out | apply below_alloc | apply pw_below_drewN | apply below_drew1))))); (case side2 => exact HC2.out); rintro e w110 ⟨v276, rfl, ho0, hb⟩; refine ⟨_, rfl, ?_⟩; have n0_ := Aside0.mk (Kd.R_below (by exact HO_8.out) hb); have n1_ := Aside0.mk (Kd.R_below (by exact HO_10.out) hb); have n2_ := Aside0.mk (Kd.R_below (by exact HO_11.out) hb); have n3_ := Aside0.mk (Kd.S_elder' (by exact HO_12.out) (Kd.S_base ho0) hb); have n4_ := Aside0.mk (Kd.R_below (by exact HO_13.out) hb); have n5_ := Aside0.mk (Kd.R_below (by exact HO269.out) hb); have n6_ := Aside0.mk (Kd.R_below (by exact HO273.out) hb); have n7_ := Aside0.mk (Kd.S_lower (Kd.S_new' (Kd.S_new' (Kd.S_new' (Kd.S_new' (Kd.S_new' ho0 (Kd.R_lt (by exact HO_8.out))) (Kd.R_lt (by exact HO_11.out))) (Kd.S_lt (by exact HO_12.out))) (Kd.R_lt (by exact HO_13.out))) (Kd.R_lt (by exact HO273.out))) (below_size (by repeat (first | exact HB.out | apply below_alloc | apply pw_below_drewN | apply below_drew1)))); have n8_ := Aside0.mk (below_step (by repeat (first | exact HB.out | apply below_alloc | apply pw_below_drewN | apply below_drew1)) hb); clear HO_8; clear HO_10; clear HO_11; clear HO_12; clear HO_13; clear HO269; clear HO273; clear HB; have HO_8 := n0_; have HO_10 := n1_; have HO_11 := n2_; have HO_12 := n3_; have HO_13 := n4_; have HO269 := n5_; have HO273 := n6_; have HO277 := n7_; have HB := n8_; clear n0_ n1_ n2_ n3_ n4_ n5_ n6_ n7_ n8_; (try clear hb); (try clear hb2); (try clear hk); (try clear hi); (try clear ho0); obtain ⟨Ao111, co111, eo111⟩ := Kd.S_slice HO277.out; subst eo111) | ((with_reducible refine gate_callee (f := 57) rfl ?_); refine goesL_ (some 78) rfl rfl Try.func57 (by kernel_rfl) rfl #[.slice Ao33 t259.length co33, .slice Ao111 t275.length co111] rfl (by (try simp only [List.map_toArray, List.map_cons, List.map_nil]); first | done | rfl) ?_; (with_reducible refine (laws_eqInt64SS.calls kj18 _ _ t259 _ _ t275 false _ ?side1 ?side2 ?side3 ?side4 A49.out).mono ?_); (case side1 => exact (Kd.S_reads' HO_12.out).2.2); (case side2 => exact (Kd.S_reads' HO_12.out).2.1); (case side3 => exact (Kd.S_reads' HO277.out).2.2); (case side4 => exact (Kd.S_reads' HO277.out).2.1); rintro e w' ⟨rfl, ⟨nd, rfl⟩⟩; refine ⟨_, rfl, ?_⟩))
        go_ret
        exact ⟨by first | rfl | (simp [errW_none, errW_some] <;> rfl) | (simp [*, errW_none, errW_some] <;> rfl), by repeat (first | exact HB.out | apply below_alloc | apply pw_below_drewN | apply below_drew1)⟩
       subst c50
       have H1 : ((laws_markSyllableS.f kj18 t253 1).bind fun bt279 => ((laws_markInt64S.f kj18 t256 bt279.1).bind fun bt281 => ((laws_markInt64SS.f kj18 t259 bt281.1).bind fun bt283 => (if bt283.1 < 0 then (laws_FnExactClosedForm.j1 kj18 l0 l1 l2 t249 t250 t262 true) else ((laws_eqInt64S.f kj18 t262 t249).bind fun t285 => (if t285 = true then (laws_FnExactClosedForm.j1 kj18 l0 l1 l2 t249 t250 t262 (t263 != t250)) else (laws_FnExactClosedForm.j1 kj18 l0 l1 l2 t249 t250 t262 true))))))) = some r := by rw [if_pos rfl] at H; exact H
       clear H
       have H := H1
       clear H1
       replace H := Option.bind_eq_some_iff.mp H
       obtain ⟨⟨t279, t280⟩, A510, H⟩ := H
       replace H : ((laws_markInt64S.f kj18 t256 t279).bind fun bt281 => ((laws_markInt64SS.f kj18 t259 bt281.1).bind fun bt283 => (if bt283.1 < 0 then (laws_FnExactClosedForm.j1 kj18 l0 l1 l2 t249 t250 t262 true) else ((laws_eqInt64S.f kj18 t262 t249).bind fun t285 => (if t285 = true then (laws_FnExactClosedForm.j1 kj18 l0 l1 l2 t249 t250 t262 (t263 != t250)) else (laws_FnExactClosedForm.j1 kj18 l0 l1 l2 t249 t250 t262 true)))))) = some r := H
       have A51 := Aside0.mk A510
       clear A510
       replace H := Option.bind_eq_some_iff.mp H
       obtain ⟨⟨t281, t282⟩, A520, H⟩ := H
       replace H : ((laws_markInt64SS.f kj18 t259 t281).bind fun bt283 => (if bt283.1 < 0 then (laws_FnExactClosedForm.j1 kj18 l0 l1 l2 t249 t250 t262 true) else ((laws_eqInt64S.f kj18 t262 t249).bind fun t285 => (if t285 = true then (laws_FnExactClosedForm.j1 kj18 l0 l1 l2 t249 t250 t262 (t263 != t250)) else (laws_FnExactClosedForm.j1 kj18 l0 l1 l2 t249 t250 t262 true))))) = some r := H
       have A52 := Aside0.mk A520
       clear A520
       replace H := Option.bind_eq_some_iff.mp H
       obtain ⟨⟨t283, t284⟩, A530, H⟩ := H
       replace H : (if t283 < 0 then (laws_FnExactClosedForm.j1 kj18 l0 l1 l2 t249 t250 t262 true) else ((laws_eqInt64S.f kj18 t262 t249).bind fun t285 => (if t285 = true then (laws_FnExactClosedForm.j1 kj18 l0 l1 l2 t249 t250 t262 (t263 != t250)) else (laws_FnExactClosedForm.j1 kj18 l0 l1 l2 t249 t250 t262 true)))) = some r := H
       have A53 := Aside0.mk A530
       clear A530
       have HC54 := Aside0.mk H
       clear H
       go_upto_region 27 with (first | ((with_reducible refine gate_callee (f := 17) rfl ?_); refine goesL_ (some 67) rfl rfl Try.func17 (by kernel_rfl) rfl #[.slice A0 l0.length c0] rfl (by (try simp only [List.map_toArray, List.map_cons, List.map_nil]); first | done | rfl) ?_; (with_reducible refine (laws_toSyllableS.calls kj18 _ _ l0 t267 _ ?side1 ?side2 A42.out).mono ?_); (case side1 => exact (Kd.C_below HR0.out HB.out)); (case side2 => exact HC0.out); rintro e w55 ⟨v268, rfl, ho0, hb⟩; refine ⟨_, rfl, ?_⟩; have n0_ := Aside0.mk (Kd.R_below (by exact HO_8.out) hb); have n1_ := Aside0.mk (Kd.R_elder' (by exact HO_10.out) (Kd.R_base ho0) hb); have n2_ := Aside0.mk (Kd.R_below (by exact HO_11.out) hb); have n3_ := Aside0.mk (Kd.S_below (by exact HO_12.out) hb); have n4_ := Aside0.mk (Kd.R_below (by exact HO_13.out) hb); have n5_ := Aside0.mk (Kd.R_lower (Kd.R_new' ho0 (Kd.R_lt (by exact HO_10.out))) (below_size (by repeat (first | exact HB.out | apply below_alloc | apply pw_below_drewN | apply below_drew1)))); have n6_ := Aside0.mk (below_step (by repeat (first | exact HB.out | apply below_alloc | apply pw_below_drewN | apply below_drew1)) hb); clear HO_8; clear HO_10; clear HO_11; clear HO_12; clear HO_13; clear HB; have HO_8 := n0_; have HO_10 := n1_; have HO_11 := n2_; have HO_12 := n3_; have HO_13 := n4_; have HO269 := n5_; have HB := n6_; clear n0_ n1_ n2_ n3_ n4_ n5_ n6_; (try clear hb); (try clear hb2); (try clear hk); (try clear hi); (try clear ho0); obtain ⟨Ao56, co56, eo56⟩ := Kd.R_slice HO269.out; subst eo56) | ((with_reducible refine gate_callee (f := 21) rfl ?_); refine goesL_ (some 68) rfl rfl Try.func21 (by kernel_rfl) rfl #[.slice Ao31 t253.length co31, .slice Ao56 t267.length co56] rfl (by (try simp only [List.map_toArray, List.map_cons, List.map_nil]); first | done | rfl) ?_; (with_reducible refine (laws_eqSyllableS.calls kj18 _ _ t253 _ _ t267 true _ ?side1 ?side2 ?side3 ?side4 A43.out).mono ?_); (case side1 => exact (Kd.R_reads' HO_10.out).2.2); (case side2 => exact (Kd.R_reads' HO_10.out).2.1); (case side3 => exact (Kd.R_reads' HO269.out).2.2); (case side4 => exact (Kd.R_reads' HO269.out).2.1); rintro e w57 ⟨rfl, hb⟩; refine ⟨_, rfl, ?_⟩; have n0_ := Aside0.mk (Kd.R_below (by exact HO_8.out) hb); have n1_ := Aside0.mk (Kd.R_below (by exact HO_10.out) hb); have n2_ := Aside0.mk (Kd.R_below (by exact HO_11.out) hb); have n3_ := Aside0.mk (Kd.S_below (by exact HO_12.out) hb); have n4_ := Aside0.mk (Kd.R_below (by exact HO_13.out) hb); have n5_ := Aside0.mk (Kd.R_below (by exact HO269.out) hb); have n6_ := Aside0.mk (below_step (by repeat (first | exact HB.out | apply below_alloc | apply pw_below_drewN | apply below_drew1)) hb); clear HO_8; clear HO_10; clear HO_11; clear HO_12; clear HO_13; clear HO269; clear HB; have HO_8 := n0_; have HO_10 := n1_; have HO_11 := n2_; have HO_12 := n3_; have HO_13 := n4_; have HO269 := n5_; have HB := n6_; clear n0_ n1_ n2_ n3_ n4_ n5_ n6_; (try clear hb); (try clear hb2); (try clear hk); (try clear hi)) | ((with_reducible refine gate_callee (f := 18) rfl ?_); refine goesL_ (some 72) rfl rfl Try.func18 (by kernel_rfl) rfl #[.slice A1 l1.length c1] rfl (by (try simp only [List.map_toArray, List.map_cons, List.map_nil]); first | done | rfl) ?_; (with_reducible refine (laws_toInt64S.calls kj18 _ _ l1 t271 _ ?side1 ?side2 A45.out).mono ?_); (case side1 => exact (Kd.C_below HR1.out HB.out)); (case side2 => exact HC1.out); rintro e w58 ⟨v272, rfl, ho0, hb⟩; refine ⟨_, rfl, ?_⟩; have n0_ := Aside0.mk (Kd.R_elder' (by exact HO_8.out) (Kd.R_base ho0) hb); have n1_ := Aside0.mk (Kd.R_below (by exact HO_10.out) hb); have n2_ := Aside0.mk (Kd.R_elder' (by exact HO_11.out) (Kd.R_base ho0) hb); have n3_ := Aside0.mk (Kd.S_elder' (by exact HO_12.out) (Kd.R_base ho0) hb); have n4_ := Aside0.mk (Kd.R_elder' (by exact HO_13.out) (Kd.R_base ho0) hb); have n5_ := Aside0.mk (Kd.R_below (by exact HO269.out) hb); have n6_ := Aside0.mk (Kd.R_lower (Kd.R_new' (Kd.R_new' (Kd.R_new' ho0 (Kd.R_lt (by exact HO_8.out))) (Kd.R_lt (by exact HO_11.out))) (Kd.R_lt (by exact HO_13.out))) (below_size (by repeat (first | exact HB.out | apply below_alloc | apply pw_below_drewN | apply below_drew1)))); have n7_ := Aside0.mk (below_step (by repeat (first | exact HB.out | apply below_alloc | apply pw_below_drewN | apply below_drew1)) hb); clear HO_8; clear HO_10; clear HO_11; clear HO_12; clear HO_13; clear HO269; clear HB; have HO_8 := n0_; have HO_10 := n1_; have HO_11 := n2_; have HO_12 := n3_; have HO_13 := n4_; have HO269 := n5_; have HO273 := n6_; have HB := n7_; clear n0_ n1_ n2_ n3_ n4_ n5_ n6_ n7_; (try clear hb); (try clear hb2); (try clear hk); (try clear hi); (try clear ho0); obtain ⟨Ao59, co59, eo59⟩ := Kd.R_slice HO273.out; subst eo59) | ((with_reducible refine gate_callee (f := 20) rfl ?_); refine goesL_ (some 73) rfl rfl Try.func20 (by kernel_rfl) rfl #[.slice Ao32 t256.length co32, .slice Ao59 t271.length co59] rfl (by (try simp only [List.map_toArray, List.map_cons, List.map_nil]); first | done | rfl) ?_; (with_reducible refine (laws_eqInt64S.calls kj18 _ _ t256 _ _ t271 true _ ?side1 ?side2 ?side3 ?side4 A46.out).mono ?_); (case side1 => exact (Kd.R_reads' HO_11.out).2.2); (case side2 => exact (Kd.R_reads' HO_11.out).2.1); (case side3 => exact (Kd.R_reads' HO273.out).2.2); (case side4 => exact (Kd.R_reads' HO273.out).2.1); rintro e w' ⟨rfl, ⟨nd, rfl⟩⟩; refine ⟨_, rfl, ?_⟩) | ((with_reducible refine gate_callee (f := 80) rfl ?_); refine goesL_ (some 77) rfl rfl Try.func80 (by kernel_rfl) rfl #[.slice A2 l2.length c2] rfl (by (try simp only [List.map_toArray, List.map_cons, List.map_nil]); first | done | rfl) ?_; (with_reducible refine (laws_toInt64SS.calls kj18 _ _ l2 t275 _ ?side1 ?side2 A48.out).mono ?_); (case side1 => repeat (first | exact (Kd.C_below HR2.out (by repeat (first | exact HB.out | apply below_alloc | apply pw_below_drewN | apply below_drew1))))); (case side2 => exact HC2.out); rintro e w60 ⟨v276, rfl, ho0, hb⟩; refine ⟨_, rfl, ?_⟩; have n0_ := Aside0.mk (Kd.R_below (by exact HO_8.out) hb); have n1_ := Aside0.mk (Kd.R_below (by exact HO_10.out) hb); have n2_ := Aside0.mk (Kd.R_below (by exact HO_11.out) hb); have n3_ := Aside0.mk (Kd.S_elder' (by exact HO_12.out) (Kd.S_base ho0) hb); have n4_ := Aside0.mk (Kd.R_below (by exact HO_13.out) hb); have n5_ := Aside0.mk (Kd.R_below (by exact HO269.out) hb); have n6_ := Aside0.mk (Kd.R_below (by exact HO273.out) hb); have n7_ := Aside0.mk (Kd.S_lower (Kd.S_new' (Kd.S_new' (Kd.S_new' (Kd.S_new' (Kd.S_new' ho0 (Kd.R_lt (by exact HO_8.out))) (Kd.R_lt (by exact HO_11.out))) (Kd.S_lt (by exact HO_12.out))) (Kd.R_lt (by exact HO_13.out))) (Kd.R_lt (by exact HO273.out))) (below_size (by repeat (first | exact HB.out | apply below_alloc | apply pw_below_drewN | apply below_drew1)))); have n8_ := Aside0.mk (below_step (by repeat (first | exact HB.out | apply below_alloc | apply pw_below_drewN | apply below_drew1)) hb); clear HO_8; clear HO_10; clear HO_11; clear HO_12; clear HO_13; clear HO269; clear HO273; clear HB; have HO_8 := n0_; have HO_10 := n1_; have HO_11 := n2_; have HO_12 := n3_; have HO_13 := n4_; have HO269 := n5_; have HO273 := n6_; have HO277 := n7_; have HB := n8_; clear n0_ n1_ n2_ n3_ n4_ n5_ n6_ n7_ n8_; (try clear hb); (try clear hb2); (try clear hk); (try clear hi); (try clear ho0); obtain ⟨Ao61, co61, eo61⟩ := Kd.S_slice HO277.out; subst eo61) | ((with_reducible refine gate_callee (f := 57) rfl ?_); refine goesL_ (some 78) rfl rfl Try.func57 (by kernel_rfl) rfl #[.slice Ao33 t259.length co33, .slice Ao61 t275.length co61] rfl (by (try simp only [List.map_toArray, List.map_cons, List.map_nil]); first | done | rfl) ?_; (with_reducible refine (laws_eqInt64SS.calls kj18 _ _ t259 _ _ t275 true _ ?side1 ?side2 ?side3 ?side4 A49.out).mono ?_); (case side1 => exact (Kd.S_reads' HO_12.out).2.2); (case side2 => exact (Kd.S_reads' HO_12.out).2.1); (case side3 => exact (Kd.S_reads' HO277.out).2.2); (case side4 => exact (Kd.S_reads' HO277.out).2.1); rintro e w' ⟨rfl, ⟨nd, rfl⟩⟩; refine ⟨_, rfl, ?_⟩) | ((with_reducible refine gate_callee (f := 22) rfl ?_); refine goesL_ (some 82) rfl rfl Try.func22 (by kernel_rfl) rfl #[.slice Ao31 t253.length co31, .int .i64 1] rfl (by (try simp only [List.map_toArray, List.map_cons, List.map_nil]); first | done | rfl) ?_; (with_reducible refine (laws_markSyllableS.calls kj18 (fun k_ => some k_ = (.slice Ao31 t253.length co31 : Value).ownBlock) (.slice Ao31 t253.length co31) t253 1 t279 t280 w _ ?side1 ?side2 A51.out).mono ?_); (case side1 => repeat (first | (with_reducible first | exact HB.out | apply below_alloc | apply pw_below_drewN | apply below_drew1) | exact HB.out)); (case side2 => exact Kd.R_tight rfl HO_10.out); rintro e w62 ⟨rfl, hy0, hb, hkp⟩; refine ⟨_, rfl, ?_⟩; have n0_ := Aside0.mk (Kd.R_mono (ok' := fun k_ => some k_ ≠ (.slice Ao32 t256.length co32 : Value).ownBlock ∧ some k_ ≠ (v264 : Value).ownBlock ∧ some k_ ≠ (.slice Ao59 t271.length co59 : Value).ownBlock) (Kd.R_keptB ((Kd.R_apart' HO_8.out (Kd.R_typed HO_10.out) (by decide))) hkp (fun k_ hk_ hs_ => (hk_.2) hs_)) (fun k_ hk_ => ⟨hk_.1.1.1.1, hk_.1.1.1.2, hk_.1.1.2⟩)); have n1_ := Aside0.mk (Kd.R_reok rfl hy0 (fun k_ e_ => HO_10.out.1 k_ e_)); have n2_ := Aside0.mk (Kd.R_mono (ok' := fun k_ => some k_ ≠ (v251 : Value).ownBlock ∧ some k_ ≠ (v264 : Value).ownBlock ∧ some k_ ≠ (.slice Ao59 t271.length co59 : Value).ownBlock) (Kd.R_keptB ((Kd.R_apart' HO_11.out (Kd.R_typed HO_10.out) (by decide))) hkp (fun k_ hk_ hs_ => (hk_.2) hs_)) (fun k_ hk_ => ⟨hk_.1.1.1.1, hk_.1.1.1.2, hk_.1.1.2⟩)); have n3_ := Aside0.mk (Kd.S_mono (ok' := fun k_ => some k_ ≠ (v251 : Value).ownBlock ∧ some k_ ≠ (.slice Ao32 t256.length co32 : Value).ownBlock ∧ some k_ ≠ (v264 : Value).ownBlock ∧ some k_ ≠ (.slice Ao59 t271.length co59 : Value).ownBlock ∧ some k_ ≠ (.slice Ao61 t275.length co61 : Value).ownBlock) (Kd.S_keptB ((Kd.S_apart' HO_12.out (Kd.R_typed HO_10.out) (by decide))) hkp (fun k_ hk_ hs_ => (hk_.2) hs_)) (fun k_ hk_ => ⟨hk_.1.1.1.1.1, hk_.1.1.1.1.2.1, hk_.1.1.1.1.2.2, hk_.1.1.1.2, hk_.1.1.2⟩)); have n4_ := Aside0.mk (Kd.R_mono (ok' := fun k_ => some k_ ≠ (v251 : Value).ownBlock ∧ some k_ ≠ (.slice Ao32 t256.length co32 : Value).ownBlock ∧ some k_ ≠ (.slice Ao59 t271.length co59 : Value).ownBlock) (Kd.R_keptB ((Kd.R_apart' HO_13.out (Kd.R_typed HO_10.out) (by decide))) hkp (fun k_ hk_ hs_ => (hk_.2) hs_)) (fun k_ hk_ => ⟨hk_.1.1.1.1, hk_.1.1.1.2, hk_.1.1.2⟩)); have n5_ := Aside0.mk (Kd.R_mono (ok' := fun k_ => some k_ ≠ (.slice Ao31 t253.length co31 : Value).ownBlock) (Kd.R_keptB (HO269.out) hkp (fun k_ hk_ hs_ => (hk_.2) hs_)) (fun k_ hk_ => hk_.1.2)); have n6_ := Aside0.mk (Kd.R_mono (ok' := fun k_ => some k_ ≠ (v251 : Value).ownBlock ∧ some k_ ≠ (.slice Ao32 t256.length co32 : Value).ownBlock ∧ some k_ ≠ (v264 : Value).ownBlock) (Kd.R_keptB ((Kd.R_apart' HO273.out (Kd.R_typed HO_10.out) (by decide))) hkp (fun k_ hk_ hs_ => (hk_.2) hs_)) (fun k_ hk_ => ⟨hk_.1.1.1.1.2, hk_.1.1.1.2, hk_.1.1.2⟩)); have n7_ := Aside0.mk (Kd.S_mono (ok' := fun k_ => some k_ ≠ (v251 : Value).ownBlock ∧ some k_ ≠ (.slice Ao32 t256.length co32 : Value).ownBlock ∧ some k_ ≠ (.slice Ao33 t259.length co33 : Value).ownBlock ∧ some k_ ≠ (v264 : Value).ownBlock ∧ some k_ ≠ (.slice Ao59 t271.length co59 : Value).ownBlock) (Kd.S_keptB ((Kd.S_apart' HO277.out (Kd.R_typed HO_10.out) (by decide))) hkp (fun k_ hk_ hs_ => (hk_.2) hs_)) (fun k_ hk_ => ⟨hk_.1.1.1.1.1.1.2, hk_.1.1.1.1.1.2, hk_.1.1.1.1.2, hk_.1.1.1.2, hk_.1.1.2⟩)); have n8_ := Aside0.mk (hb); clear HO_8; clear HO_10; clear HO_11; clear HO_12; clear HO_13; clear HO269; clear HO273; clear HO277; clear HB; have HO_8 := n0_; have HO_10 := n1_; have HO_11 := n2_; have HO_12 := n3_; have HO_13 := n4_; have HO269 := n5_; have HO273 := n6_; have HO277 := n7_; have HB := n8_; clear n0_ n1_ n2_ n3_ n4_ n5_ n6_ n7_ n8_; (try clear hb); (try clear hkp); (try clear hy0)) | ((with_reducible refine gate_callee (f := 23) rfl ?_); refine goesL_ (some 85) rfl rfl Try.func23 (by kernel_rfl) rfl #[.slice Ao32 t256.length co32, .int .i64 t279] rfl (by (try simp only [List.map_toArray, List.map_cons, List.map_nil]); first | done | rfl) ?_; (with_reducible refine (laws_markInt64S.calls kj18 (fun k_ => some k_ = (.slice Ao32 t256.length co32 : Value).ownBlock) (.slice Ao32 t256.length co32) t256 t279 t281 t282 w _ ?side1 ?side2 A52.out).mono ?_); (case side1 => repeat (first | (with_reducible first | exact HB.out | apply below_alloc | apply pw_below_drewN | apply below_drew1) | exact HB.out)); (case side2 => exact Kd.R_tight rfl HO_11.out); rintro e w63 ⟨rfl, hy0, hb, hkp⟩; refine ⟨_, rfl, ?_⟩; have n0_ := Aside0.mk (Kd.R_mono (ok' := fun k_ => some k_ ≠ (.slice Ao32 t256.length co32 : Value).ownBlock ∧ some k_ ≠ (v264 : Value).ownBlock ∧ some k_ ≠ (.slice Ao59 t271.length co59 : Value).ownBlock) (Kd.R_keptB (HO_8.out) hkp (fun k_ hk_ hs_ => (hk_.1) hs_)) (fun k_ hk_ => ⟨hk_.1.1, hk_.1.2.1, hk_.1.2.2⟩)); have n1_ := Aside0.mk (Kd.R_mono (ok' := fun k_ => some k_ ≠ (.slice Ao56 t267.length co56 : Value).ownBlock) (Kd.R_keptB ((Kd.R_apart' HO_10.out (Kd.R_typed HO_11.out) (by decide))) hkp (fun k_ hk_ hs_ => (hk_.2) hs_)) (fun k_ hk_ => hk_.1.1.2)); have n2_ := Aside0.mk (Kd.R_reok rfl hy0 (fun k_ e_ => HO_11.out.1 k_ e_)); have n3_ := Aside0.mk (Kd.S_mono (ok' := fun k_ => some k_ ≠ (v251 : Value).ownBlock ∧ some k_ ≠ (.slice Ao32 t256.length co32 : Value).ownBlock ∧ some k_ ≠ (v264 : Value).ownBlock ∧ some k_ ≠ (.slice Ao59 t271.length co59 : Value).ownBlock ∧ some k_ ≠ (.slice Ao61 t275.length co61 : Value).ownBlock) (Kd.S_keptB (HO_12.out) hkp (fun k_ hk_ hs_ => (hk_.2.1) hs_)) (fun k_ hk_ => ⟨hk_.1.1, hk_.1.2.1, hk_.1.2.2.1, hk_.1.2.2.2.1, hk_.1.2.2.2.2⟩)); have n4_ := Aside0.mk (Kd.R_mono (ok' := fun k_ => some k_ ≠ (v251 : Value).ownBlock ∧ some k_ ≠ (.slice Ao32 t256.length co32 : Value).ownBlock ∧ some k_ ≠ (.slice Ao59 t271.length co59 : Value).ownBlock) (Kd.R_keptB (HO_13.out) hkp (fun k_ hk_ hs_ => (hk_.2.1) hs_)) (fun k_ hk_ => ⟨hk_.1.1, hk_.1.2.1, hk_.1.2.2⟩)); have n5_ := Aside0.mk (Kd.R_mono (ok' := fun k_ => some k_ ≠ (.slice Ao31 t253.length co31 : Value).ownBlock) (Kd.R_keptB ((Kd.R_apart' HO269.out (Kd.R_typed HO_11.out) (by decide))) hkp (fun k_ hk_ hs_ => (hk_.2) hs_)) (fun k_ hk_ => hk_.1.1)); have n6_ := Aside0.mk (Kd.R_mono (ok' := fun k_ => some k_ ≠ (v251 : Value).ownBlock ∧ some k_ ≠ (.slice Ao32 t256.length co32 : Value).ownBlock ∧ some k_ ≠ (v264 : Value).ownBlock) (Kd.R_keptB (HO273.out) hkp (fun k_ hk_ hs_ => (hk_.2.1) hs_)) (fun k_ hk_ => ⟨hk_.1.1, hk_.1.2.1, hk_.1.2.2⟩)); have n7_ := Aside0.mk (Kd.S_mono (ok' := fun k_ => some k_ ≠ (v251 : Value).ownBlock ∧ some k_ ≠ (.slice Ao32 t256.length co32 : Value).ownBlock ∧ some k_ ≠ (.slice Ao33 t259.length co33 : Value).ownBlock ∧ some k_ ≠ (v264 : Value).ownBlock ∧ some k_ ≠ (.slice Ao59 t271.length co59 : Value).ownBlock) (Kd.S_keptB (HO277.out) hkp (fun k_ hk_ hs_ => (hk_.2.1) hs_)) (fun k_ hk_ => ⟨hk_.1.1, hk_.1.2.1, hk_.1.2.2.1, hk_.1.2.2.2.1, hk_.1.2.2.2.2⟩)); have n8_ := Aside0.mk (hb); clear HO_8; clear HO_10; clear HO_11; clear HO_12; clear HO_13; clear HO269; clear HO273; clear HO277; clear HB; have HO_8 := n0_; have HO_10 := n1_; have HO_11 := n2_; have HO_12 := n3_; have HO_13 := n4_; have HO269 := n5_; have HO273 := n6_; have HO277 := n7_; have HB := n8_; clear n0_ n1_ n2_ n3_ n4_ n5_ n6_ n7_ n8_; (try clear hb); (try clear hkp); (try clear hy0)) | ((with_reducible refine gate_callee (f := 58) rfl ?_); refine goesL_ (some 88) rfl rfl Try.func58 (by kernel_rfl) rfl #[.slice Ao33 t259.length co33, .int .i64 t281] rfl (by (try simp only [List.map_toArray, List.map_cons, List.map_nil]); first | done | rfl) ?_; (with_reducible refine (laws_markInt64SS.calls kj18 (fun k_ => (some k_ ≠ (v251 : Value).ownBlock ∧ (some k_ ≠ (.slice Ao32 t256.length co32 : Value).ownBlock ∧ (some k_ ≠ (v264 : Value).ownBlock ∧ (some k_ ≠ (.slice Ao59 t271.length co59 : Value).ownBlock ∧ some k_ ≠ (.slice Ao61 t275.length co61 : Value).ownBlock))))) (.slice Ao33 t259.length co33) t259 t281 t283 t284 w _ ?side1 ?side2 A53.out).mono ?_); (case side1 => repeat (first | (with_reducible first | exact HB.out | apply below_alloc | apply pw_below_drewN | apply below_drew1) | exact HB.out)); (case side2 => exact HO_12.out); rintro e w64 ⟨rfl, hy0, hb, hkp⟩; refine ⟨_, rfl, ?_⟩; (try clear HO_10); (try clear HO269); (try clear HO277); have n0_ := Aside0.mk (Kd.R_mono (ok' := fun k_ => some k_ ≠ (.slice Ao32 t256.length co32 : Value).ownBlock ∧ some k_ ≠ (v264 : Value).ownBlock ∧ some k_ ≠ (.slice Ao59 t271.length co59 : Value).ownBlock) (Kd.R_keptB (Kd.R_tight2 rfl (HO_8.out)) hkp (fun k_ hk_ hs_ => (hs_.1) hk_.1)) (fun k_ hk_ => ⟨hk_.1.2.1, hk_.1.2.2.1, hk_.1.2.2.2⟩)); have n1_ := Aside0.mk (Kd.R_mono (ok' := fun k_ => some k_ ≠ (v251 : Value).ownBlock ∧ some k_ ≠ (v264 : Value).ownBlock ∧ some k_ ≠ (.slice Ao59 t271.length co59 : Value).ownBlock) (Kd.R_keptB (Kd.R_tight2 rfl (HO_11.out)) hkp (fun k_ hk_ hs_ => (hs_.2.1) hk_.1)) (fun k_ hk_ => ⟨hk_.1.2.1, hk_.1.2.2.1, hk_.1.2.2.2⟩)); have n2_ := Aside0.mk (Kd.S_mono (ok' := fun _ => True) hy0 (fun _ _ => trivial)); have n3_ := Aside0.mk (Kd.R_mono (ok' := fun k_ => some k_ ≠ (v251 : Value).ownBlock ∧ some k_ ≠ (.slice Ao32 t256.length co32 : Value).ownBlock ∧ some k_ ≠ (.slice Ao59 t271.length co59 : Value).ownBlock) (Kd.R_keptB (Kd.R_tight2 rfl (HO_13.out)) hkp (fun k_ hk_ hs_ => (hs_.2.2.1) hk_.1)) (fun k_ hk_ => ⟨hk_.1.2.1, hk_.1.2.2.1, hk_.1.2.2.2⟩)); have n4_ := Aside0.mk (Kd.R_mono (ok' := fun k_ => some k_ ≠ (v251 : Value).ownBlock ∧ some k_ ≠ (.slice Ao32 t256.length co32 : Value).ownBlock ∧ some k_ ≠ (v264 : Value).ownBlock) (Kd.R_keptB (Kd.R_tight2 rfl (HO273.out)) hkp (fun k_ hk_ hs_ => (hs_.2.2.2.1) hk_.1)) (fun k_ hk_ => ⟨hk_.1.2.1, hk_.1.2.2.1, hk_.1.2.2.2⟩)); have n5_ := Aside0.mk (hb); clear HO_8; clear HO_11; clear HO_12; clear HO_13; clear HO273; clear HB; have HO_8 := n0_; have HO_11 := n1_; have HO_12 := n2_; have HO_13 := n3_; have HO273 := n4_; have HB := n5_; clear n0_ n1_ n2_ n3_ n4_ n5_; (try clear hb); (try clear hkp); (try clear hy0)))
       (try simp only [Act.put, s0_, s1_, s2_])
       go_cut [101] (fun v101 wc => ∃ (kq : Nat) (x101_53 : Bool), v101 = .bool x101_53 ∧ Aside0 (laws_FnExactClosedForm.j1 kq l0 l1 l2 t249 t250 t262 x101_53 = some r) ∧ Aside0 (kq ≤ kj18) ∧ Aside0 (Kd.R (Kd.int .i64) 2 wc w.heap.size (fun k_ => some k_ ≠ (v264 : Value).ownBlock) v251 t249) ∧ Aside0 (Kd.R (Kd.int .i64) 2 wc w.heap.size (fun k_ => some k_ ≠ (v251 : Value).ownBlock) v264 t262) ∧ Aside0 (Below w.heap.size w wc))
       case first =>
        have H := HC54.out
        clear HC54
        by_cases c65 : t283 < 0
        rotate_left
        ·rw [if_neg c65] at H
         have c65b0 : decide (t283 < 0) = false := decide_eq_false c65
         clear c65
         (first | rw [c65b0] | (simp only [i64_w, i32_w]; rw [c65b0]) | skip)
         replace H := Option.bind_eq_some_iff.mp H
         obtain ⟨t285, A660, H⟩ := H
         replace H : (if t285 = true then (laws_FnExactClosedForm.j1 kj18 l0 l1 l2 t249 t250 t262 (t263 != t250)) else (laws_FnExactClosedForm.j1 kj18 l0 l1 l2 t249 t250 t262 true)) = some r := H
         have A66 := Aside0.mk A660
         clear A660
         by_cases c67 : t285 = true
         rotate_left
         ·replace c67 := Bool.eq_false_iff.mpr c67
          subst c67
          have H1 : (laws_FnExactClosedForm.j1 kj18 l0 l1 l2 t249 t250 t262 true) = some r := by rw [if_neg (show ¬ (false = true) by decide)] at H; exact H
          clear H
          have H := H1
          clear H1
          have H' := Aside0.mk H
          clear H
          obtain ⟨Ao70, co70, eo70⟩ := Kd.R_slice HO_13.out
          subst eo70
          obtain ⟨Ao71, co71, eo71⟩ := Kd.R_slice HO_8.out
          subst eo71
          go_wp2_with (first | (go_at_call 20; (with_reducible refine (laws_eqInt64S.calls kj18 _ _ t262 _ _ t249 false _ ?side1 ?side2 ?side3 ?side4 A66.out).mono ?_); (case side1 => exact (Kd.R_reads' HO_13.out).2.2); (case side2 => exact (Kd.R_reads' HO_13.out).2.1); (case side3 => exact (Kd.R_reads' HO_8.out).2.2); (case side4 => exact (Kd.R_reads' HO_8.out).2.1); rintro e w' ⟨rfl, ⟨nd, rfl⟩⟩))
          go_meet
          case rel => exact ⟨_, (true), (by first | rfl | (simp; done) | (simp [*]; done)), H', ⟨by have := HJ18.out; first | omega | exact Nat.le_refl _⟩, ⟨by exact Kd.R_mono HO_8.out (fun _ hk => hk.2.1)⟩, ⟨by exact Kd.R_mono HO_13.out (fun _ hk => hk.1)⟩, ⟨by repeat (first | exact HB.out | apply below_alloc | apply pw_below_drewN | apply below_drew1)⟩⟩
         subst c67
         have H1 : (laws_FnExactClosedForm.j1 kj18 l0 l1 l2 t249 t250 t262 (t263 != t250)) = some r := by rw [if_pos rfl] at H; exact H
         clear H
         have H := H1
         clear H1
         have H' := Aside0.mk H
         clear H
         obtain ⟨Ao68, co68, eo68⟩ := Kd.R_slice HO_13.out
         subst eo68
         obtain ⟨Ao69, co69, eo69⟩ := Kd.R_slice HO_8.out
         subst eo69
         go_wp2_with (first | (go_at_call 20; (with_reducible refine (laws_eqInt64S.calls kj18 _ _ t262 _ _ t249 true _ ?side1 ?side2 ?side3 ?side4 A66.out).mono ?_); (case side1 => exact (Kd.R_reads' HO_13.out).2.2); (case side2 => exact (Kd.R_reads' HO_13.out).2.1); (case side3 => exact (Kd.R_reads' HO_8.out).2.2); (case side4 => exact (Kd.R_reads' HO_8.out).2.1); rintro e w' ⟨rfl, ⟨nd, rfl⟩⟩))
         go_meet
         case rel => exact ⟨_, ((t263 != t250)), (by first | rfl | (simp; done) | (simp [*]; done)), H', ⟨by have := HJ18.out; first | omega | exact Nat.le_refl _⟩, ⟨by exact Kd.R_mono HO_8.out (fun _ hk => hk.2.1)⟩, ⟨by exact Kd.R_mono HO_13.out (fun _ hk => hk.1)⟩, ⟨by repeat (first | exact HB.out | apply below_alloc | apply pw_below_drewN | apply below_drew1)⟩⟩
        rw [if_pos c65] at H
        have c65b0 : decide (t283 < 0) = true := decide_eq_true c65
        clear c65
        (first | rw [c65b0] | (simp only [i64_w, i32_w]; rw [c65b0]) | skip)
        have H' := Aside0.mk H
        clear H
        go_wp2
        go_meet
        case rel => exact ⟨_, (true), (by first | rfl | (simp; done) | (simp [*]; done)), H', ⟨by have := HJ18.out; first | omega | exact Nat.le_refl _⟩, ⟨by exact Kd.R_mono HO_8.out (fun _ hk => hk.2.1)⟩, ⟨by exact Kd.R_mono HO_13.out (fun _ hk => hk.1)⟩, ⟨by repeat (first | exact HB.out | apply below_alloc | apply pw_below_drewN | apply below_drew1)⟩⟩
       case rest =>
        clear HC54
        try clear c1
        try clear c2
        try clear p2
        try clear c3
        try clear c4
        try clear c4b0
        try clear c4b1
        try clear c5
        try clear c6
        try clear c6b0
        try clear c7
        try clear c8
        try clear c9
        try clear c9b0
        try clear c12
        try clear c15
        try clear c17
        try clear c18
        try clear c20
        try clear c21
        try clear c22
        try clear c23
        try clear c36
        try clear c41
        try clear c44
        try clear c47
        try clear c50
        try clear c57
        try clear c58
        try clear c65
        try clear c65b0
        try clear c67
        try clear p2
        obtain ⟨kq, x101_53, rfl, HA, HJ53, HO_8, HO_13, HB⟩ := hcut
        cases kq with
        | zero => exact absurd HA.out (by simp [laws_FnExactClosedForm.j1])
        | succ kj53 =>
         have H := HA.out
         clear HA
         simp only [laws_FnExactClosedForm.j1] at H
         by_cases c72 : x101_53 = true
         rotate_left
         ·replace c72 := Bool.eq_false_iff.mpr c72
          subst c72
          have H1 : ((laws_markInt64S.f kj53 t262 1).bind fun bt286 => ((laws_heldInt64S.f kj53 bt286.2 1).bind fun t288 => (if t288 < 0 then (some false) else (if t288 = bt286.1 then ((laws_toSyllableS.f kj53 l0).bind fun t289 => ((laws_toInt64S.f kj53 l1).bind fun t292 => ((laws_toInt64SS.f kj53 l2).bind fun t295 => ((impl_ClosedForm.f kj53 t289 t292 t295).bind fun bt298 => ((laws_eqInt64S.f kj53 bt298.1 t249).bind fun t302 => (if t302 = true then (laws_FnExactClosedForm.j2 kj53 bt286.2 bt286.1 (bt298.2 != t250)) else (laws_FnExactClosedForm.j2 kj53 bt286.2 bt286.1 true))))))) else (some false))))) = some r := by rw [if_neg (show ¬ (false = true) by decide)] at H; exact H
          clear H
          have H := H1
          clear H1
          replace H := Option.bind_eq_some_iff.mp H
          obtain ⟨⟨t286, t287⟩, A730, H⟩ := H
          replace H : ((laws_heldInt64S.f kj53 t287 1).bind fun t288 => (if t288 < 0 then (some false) else (if t288 = t286 then ((laws_toSyllableS.f kj53 l0).bind fun t289 => ((laws_toInt64S.f kj53 l1).bind fun t292 => ((laws_toInt64SS.f kj53 l2).bind fun t295 => ((impl_ClosedForm.f kj53 t289 t292 t295).bind fun bt298 => ((laws_eqInt64S.f kj53 bt298.1 t249).bind fun t302 => (if t302 = true then (laws_FnExactClosedForm.j2 kj53 t287 t286 (bt298.2 != t250)) else (laws_FnExactClosedForm.j2 kj53 t287 t286 true))))))) else (some false)))) = some r := H
          have A73 := Aside0.mk A730
          clear A730
          replace H := Option.bind_eq_some_iff.mp H
          obtain ⟨t288, A740, H⟩ := H
          replace H : (if t288 < 0 then (some false) else (if t288 = t286 then ((laws_toSyllableS.f kj53 l0).bind fun t289 => ((laws_toInt64S.f kj53 l1).bind fun t292 => ((laws_toInt64SS.f kj53 l2).bind fun t295 => ((impl_ClosedForm.f kj53 t289 t292 t295).bind fun bt298 => ((laws_eqInt64S.f kj53 bt298.1 t249).bind fun t302 => (if t302 = true then (laws_FnExactClosedForm.j2 kj53 t287 t286 (bt298.2 != t250)) else (laws_FnExactClosedForm.j2 kj53 t287 t286 true))))))) else (some false))) = some r := H
          have A74 := Aside0.mk A740
          clear A740
          by_cases c75 : t288 < 0
          rotate_left
          ·rw [if_neg c75] at H
           have c75b0 : decide (t288 < 0) = false := decide_eq_false c75
           clear c75
           by_cases c78 : t288 = t286
           rotate_left
           ·rw [if_neg c78] at H
            have c78b0 : (t288 == t286) = false := beq_eq_false_iff_ne.mpr c78
            have c78b1 : (t288 != t286) = true := bne_iff_ne.mpr c78
            obtain rfl := Option.some.inj H
            obtain ⟨Ao103, co103, eo103⟩ := Kd.R_slice HO_13.out
            subst eo103
            go_wp2_with (first | ((with_reducible refine gate_callee (f := 23) rfl ?_); refine goesL_ (some 104) rfl rfl Try.func23 (by kernel_rfl) rfl #[.slice Ao103 t262.length co103, .int .i64 1] rfl (by (try simp only [List.map_toArray, List.map_cons, List.map_nil]); first | done | rfl) ?_; (with_reducible refine (laws_markInt64S.calls kj53 (fun k_ => some k_ = (.slice Ao103 t262.length co103 : Value).ownBlock) (.slice Ao103 t262.length co103) t262 1 t286 t287 w _ ?side1 ?side2 A73.out).mono ?_); (case side1 => repeat (first | (with_reducible first | exact HB.out | apply below_alloc | apply pw_below_drewN | apply below_drew1) | exact HB.out)); (case side2 => exact Kd.R_tight rfl HO_13.out); rintro e w104 ⟨rfl, hy0, hb, hkp⟩; refine ⟨_, rfl, ?_⟩; have n0_ := Aside0.mk (Kd.R_mono (ok' := fun k_ => some k_ ≠ (.slice Ao103 t262.length co103 : Value).ownBlock) (Kd.R_keptB (HO_8.out) hkp (fun k_ hk_ hs_ => (hk_) hs_)) (fun k_ hk_ => hk_.1)); have n1_ := Aside0.mk (Kd.R_reok rfl hy0 (fun k_ e_ => HO_13.out.1 k_ e_)); have n2_ := Aside0.mk (hb); clear HO_8; clear HO_13; clear HB; have HO_8 := n0_; have HO_13 := n1_; have HB := n2_; clear n0_ n1_ n2_; (try clear hb); (try clear hkp); (try clear hy0)) | ((with_reducible refine gate_callee (f := 24) rfl ?_); refine goesL_ (some 107) rfl rfl Try.func24 (by kernel_rfl) rfl #[.slice Ao103 t287.length co103, .int .i64 1] rfl (by (try simp only [List.map_toArray, List.map_cons, List.map_nil]); first | done | (rw [show t287.length = t262.length from (Kd.R_reads' HO_13.out).1.symm] <;> rfl) | rfl | (simp only [List.length_drop, List.length_take]; rfl)) ?_; (with_reducible refine (laws_heldInt64S.calls kj53 _ _ t287 1 t288 _ ?side1 ?side2 A74.out).mono ?_); (case side1 => exact (Kd.R_reads' HO_13.out).2.2); (case side2 => rw [show t287.length = t262.length from (Kd.R_reads' HO_13.out).1.symm]; exact (Kd.R_reads' HO_13.out).2.1); rintro e w' ⟨rfl, ⟨nd, rfl⟩⟩; refine ⟨_, rfl, ?_⟩))
            go_ret
            exact ⟨by first | rfl | (simp [errW_none, errW_some] <;> rfl) | (simp [*, errW_none, errW_some] <;> rfl), by repeat (first | exact HB.out | apply below_alloc | apply pw_below_drewN | apply below_drew1)⟩
           rw [if_pos c78] at H
           have c78b0 : (t288 == t286) = true := beq_iff_eq.mpr c78
           have c78b1 : (t288 != t286) = false := bne_eq_false_iff_eq.mpr c78
           clear c78
           replace H := Option.bind_eq_some_iff.mp H
           obtain ⟨t289, A790, H⟩ := H
           replace H : ((laws_toInt64S.f kj53 l1).bind fun t292 => ((laws_toInt64SS.f kj53 l2).bind fun t295 => ((impl_ClosedForm.f kj53 t289 t292 t295).bind fun bt298 => ((laws_eqInt64S.f kj53 bt298.1 t249).bind fun t302 => (if t302 = true then (laws_FnExactClosedForm.j2 kj53 t287 t286 (bt298.2 != t250)) else (laws_FnExactClosedForm.j2 kj53 t287 t286 true)))))) = some r := H
           have A79 := Aside0.mk A790
           clear A790
           replace H := Option.bind_eq_some_iff.mp H
           obtain ⟨t292, A800, H⟩ := H
           replace H : ((laws_toInt64SS.f kj53 l2).bind fun t295 => ((impl_ClosedForm.f kj53 t289 t292 t295).bind fun bt298 => ((laws_eqInt64S.f kj53 bt298.1 t249).bind fun t302 => (if t302 = true then (laws_FnExactClosedForm.j2 kj53 t287 t286 (bt298.2 != t250)) else (laws_FnExactClosedForm.j2 kj53 t287 t286 true))))) = some r := H
           have A80 := Aside0.mk A800
           clear A800
           replace H := Option.bind_eq_some_iff.mp H
           obtain ⟨t295, A810, H⟩ := H
           replace H : ((impl_ClosedForm.f kj53 t289 t292 t295).bind fun bt298 => ((laws_eqInt64S.f kj53 bt298.1 t249).bind fun t302 => (if t302 = true then (laws_FnExactClosedForm.j2 kj53 t287 t286 (bt298.2 != t250)) else (laws_FnExactClosedForm.j2 kj53 t287 t286 true)))) = some r := H
           have A81 := Aside0.mk A810
           clear A810
           replace H := Option.bind_eq_some_iff.mp H
           obtain ⟨⟨t298, t299⟩, A820, H⟩ := H
           replace H : ((laws_eqInt64S.f kj53 t298 t249).bind fun t302 => (if t302 = true then (laws_FnExactClosedForm.j2 kj53 t287 t286 (t299 != t250)) else (laws_FnExactClosedForm.j2 kj53 t287 t286 true))) = some r := H
           have A82 := Aside0.mk A820
           clear A820
           have HC83 := Aside0.mk H
           clear H
           obtain ⟨Ao84, co84, eo84⟩ := Kd.R_slice HO_13.out
           subst eo84
           go_upto_region 38 with (first | ((with_reducible refine gate_callee (f := 23) rfl ?_); refine goesL_ (some 104) rfl rfl Try.func23 (by kernel_rfl) rfl #[.slice Ao84 t262.length co84, .int .i64 1] rfl (by (try simp only [List.map_toArray, List.map_cons, List.map_nil]); first | done | rfl) ?_; (with_reducible refine (laws_markInt64S.calls kj53 (fun k_ => some k_ = (.slice Ao84 t262.length co84 : Value).ownBlock) (.slice Ao84 t262.length co84) t262 1 t286 t287 w _ ?side1 ?side2 A73.out).mono ?_); (case side1 => repeat (first | (with_reducible first | exact HB.out | apply below_alloc | apply pw_below_drewN | apply below_drew1) | exact HB.out)); (case side2 => exact Kd.R_tight rfl HO_13.out); rintro e w85 ⟨rfl, hy0, hb, hkp⟩; refine ⟨_, rfl, ?_⟩; have n0_ := Aside0.mk (Kd.R_mono (ok' := fun k_ => some k_ ≠ (.slice Ao84 t262.length co84 : Value).ownBlock) (Kd.R_keptB (HO_8.out) hkp (fun k_ hk_ hs_ => (hk_) hs_)) (fun k_ hk_ => hk_.1)); have n1_ := Aside0.mk (Kd.R_reok rfl hy0 (fun k_ e_ => HO_13.out.1 k_ e_)); have n2_ := Aside0.mk (hb); clear HO_8; clear HO_13; clear HB; have HO_8 := n0_; have HO_13 := n1_; have HB := n2_; clear n0_ n1_ n2_; (try clear hb); (try clear hkp); (try clear hy0)) | ((with_reducible refine gate_callee (f := 24) rfl ?_); refine goesL_ (some 107) rfl rfl Try.func24 (by kernel_rfl) rfl #[.slice Ao84 t287.length co84, .int .i64 1] rfl (by (try simp only [List.map_toArray, List.map_cons, List.map_nil]); first | done | (rw [show t287.length = t262.length from (Kd.R_reads' HO_13.out).1.symm] <;> rfl) | rfl | (simp only [List.length_drop, List.length_take]; rfl)) ?_; (with_reducible refine (laws_heldInt64S.calls kj53 _ _ t287 1 t288 _ ?side1 ?side2 A74.out).mono ?_); (case side1 => exact (Kd.R_reads' HO_13.out).2.2); (case side2 => rw [show t287.length = t262.length from (Kd.R_reads' HO_13.out).1.symm]; exact (Kd.R_reads' HO_13.out).2.1); rintro e w' ⟨rfl, ⟨nd, rfl⟩⟩; refine ⟨_, rfl, ?_⟩) | ((with_reducible refine gate_callee (f := 17) rfl ?_); refine goesL_ (some 115) rfl rfl Try.func17 (by kernel_rfl) rfl #[.slice A0 l0.length c0] rfl (by (try simp only [List.map_toArray, List.map_cons, List.map_nil]); first | done | rfl) ?_; (with_reducible refine (laws_toSyllableS.calls kj53 _ _ l0 t289 _ ?side1 ?side2 A79.out).mono ?_); (case side1 => repeat (first | exact (Kd.C_below HR0.out (by repeat (first | exact HB.out | apply below_alloc | apply pw_below_drewN | apply below_drew1))))); (case side2 => exact HC0.out); rintro e w86 ⟨v290, rfl, ho0, hb⟩; refine ⟨_, rfl, ?_⟩; have n0_ := Aside0.mk (Kd.R_below (by exact HO_8.out) hb); have n1_ := Aside0.mk (Kd.R_below (by exact HO_13.out) hb); have n2_ := Aside0.mk (Kd.R_lower ho0 (below_size (by repeat (first | exact HB.out | apply below_alloc | apply pw_below_drewN | apply below_drew1)))); have n3_ := Aside0.mk (below_step (by repeat (first | exact HB.out | apply below_alloc | apply pw_below_drewN | apply below_drew1)) hb); clear HO_8; clear HO_13; clear HB; have HO_8 := n0_; have HO_13 := n1_; have HO291 := n2_; have HB := n3_; clear n0_ n1_ n2_ n3_; (try clear hb); (try clear hb2); (try clear hk); (try clear hi); (try clear ho0)) | ((with_reducible refine gate_callee (f := 18) rfl ?_); refine goesL_ (some 117) rfl rfl Try.func18 (by kernel_rfl) rfl #[.slice A1 l1.length c1] rfl (by (try simp only [List.map_toArray, List.map_cons, List.map_nil]); first | done | rfl) ?_; (with_reducible refine (laws_toInt64S.calls kj53 _ _ l1 t292 _ ?side1 ?side2 A80.out).mono ?_); (case side1 => exact (Kd.C_below HR1.out HB.out)); (case side2 => exact HC1.out); rintro e w87 ⟨v293, rfl, ho0, hb⟩; refine ⟨_, rfl, ?_⟩; have n0_ := Aside0.mk (Kd.R_elder' (by exact HO_8.out) (Kd.R_base ho0) hb); have n1_ := Aside0.mk (Kd.R_elder' (by exact HO_13.out) (Kd.R_base ho0) hb); have n2_ := Aside0.mk (Kd.R_below (by exact HO291.out) hb); have n3_ := Aside0.mk (Kd.R_lower (Kd.R_new' (Kd.R_new' ho0 (Kd.R_lt (by exact HO_8.out))) (Kd.R_lt (by exact HO_13.out))) (below_size (by repeat (first | exact HB.out | apply below_alloc | apply pw_below_drewN | apply below_drew1)))); have n4_ := Aside0.mk (below_step (by repeat (first | exact HB.out | apply below_alloc | apply pw_below_drewN | apply below_drew1)) hb); clear HO_8; clear HO_13; clear HO291; clear HB; have HO_8 := n0_; have HO_13 := n1_; have HO291 := n2_; have HO294 := n3_; have HB := n4_; clear n0_ n1_ n2_ n3_ n4_; (try clear hb); (try clear hb2); (try clear hk); (try clear hi); (try clear ho0)) | ((with_reducible refine gate_callee (f := 80) rfl ?_); refine goesL_ (some 119) rfl rfl Try.func80 (by kernel_rfl) rfl #[.slice A2 l2.length c2] rfl (by (try simp only [List.map_toArray, List.map_cons, List.map_nil]); first | done | rfl) ?_; (with_reducible refine (laws_toInt64SS.calls kj53 _ _ l2 t295 _ ?side1 ?side2 A81.out).mono ?_); (case side1 => exact (Kd.C_below HR2.out HB.out)); (case side2 => exact HC2.out); rintro e w88 ⟨v296, rfl, ho0, hb⟩; refine ⟨_, rfl, ?_⟩; have n0_ := Aside0.mk (Kd.R_below (by exact HO_8.out) hb); have n1_ := Aside0.mk (Kd.R_below (by exact HO_13.out) hb); have n2_ := Aside0.mk (Kd.R_below (by exact HO291.out) hb); have n3_ := Aside0.mk (Kd.R_below (by exact HO294.out) hb); have n4_ := Aside0.mk (Kd.S_lower (Kd.S_new' (Kd.S_new' (Kd.S_new' ho0 (Kd.R_lt (by exact HO_8.out))) (Kd.R_lt (by exact HO_13.out))) (Kd.R_lt (by exact HO294.out))) (below_size (by repeat (first | exact HB.out | apply below_alloc | apply pw_below_drewN | apply below_drew1)))); have n5_ := Aside0.mk (below_step (by repeat (first | exact HB.out | apply below_alloc | apply pw_below_drewN | apply below_drew1)) hb); clear HO_8; clear HO_13; clear HO291; clear HO294; clear HB; have HO_8 := n0_; have HO_13 := n1_; have HO291 := n2_; have HO294 := n3_; have HO297 := n4_; have HB := n5_; clear n0_ n1_ n2_ n3_ n4_ n5_; (try clear hb); (try clear hb2); (try clear hk); (try clear hi); (try clear ho0); obtain ⟨Ao89, co89, eo89⟩ := Kd.R_slice HO291.out; subst eo89; obtain ⟨Ao90, co90, eo90⟩ := Kd.R_slice HO294.out; subst eo90; obtain ⟨Ao91, co91, eo91⟩ := Kd.S_slice HO297.out; subst eo91) | ((with_reducible refine gate_callee (f := 81) rfl ?_); refine goesL_ (some 120) rfl rfl Try.func81 (by kernel_rfl) rfl #[.slice Ao89 t289.length co89, .slice Ao90 t292.length co90, .slice Ao91 t295.length co91] rfl (by (try simp only [List.map_toArray, List.map_cons, List.map_nil]); first | done | rfl) ?_; (with_reducible refine (impl_ClosedForm.calls kj53 _ _ t289 _ _ t292 _ _ t295 t298 t299 _ ?side1 ?side2 ?side3 ?side4 ?side5 ?side6 A82.out).mono ?_); (case side1 => exact (Kd.R_reads' HO291.out).2.2); (case side2 => exact (Kd.R_reads' HO291.out).2.1); (case side3 => exact (Kd.R_reads' HO294.out).2.2); (case side4 => exact (Kd.R_reads' HO294.out).2.1); (case side5 => exact (Kd.S_reads' HO297.out).2.2); (case side6 => exact (Kd.S_reads' HO297.out).2.1); rintro e w92 ⟨v300, rfl, ho0, hb⟩; refine ⟨_, rfl, ?_⟩; have n0_ := Aside0.mk (Kd.R_elder' (by exact HO_8.out) (Kd.R_base ho0) hb); have n1_ := Aside0.mk (Kd.R_elder' (by exact HO_13.out) (Kd.R_base ho0) hb); have n2_ := Aside0.mk (Kd.R_below (by exact HO291.out) hb); have n3_ := Aside0.mk (Kd.R_elder' (by exact HO294.out) (Kd.R_base ho0) hb); have n4_ := Aside0.mk (Kd.S_elder' (by exact HO297.out) (Kd.R_base ho0) hb); have n5_ := Aside0.mk (Kd.R_lower (Kd.R_new' (Kd.R_new' (Kd.R_new' ho0 (Kd.R_lt (by exact HO_8.out))) (Kd.R_lt (by exact HO_13.out))) (Kd.R_lt (by exact HO294.out))) (below_size (by repeat (first | exact HB.out | apply below_alloc | apply pw_below_drewN | apply below_drew1)))); have n6_ := Aside0.mk (below_step (by repeat (first | exact HB.out | apply below_alloc | apply pw_below_drewN | apply below_drew1)) hb); clear HO_8; clear HO_13; clear HO291; clear HO294; clear HO297; clear HB; have HO_8 := n0_; have HO_13 := n1_; have HO291 := n2_; have HO294 := n3_; have HO297 := n4_; have HO301 := n5_; have HB := n6_; clear n0_ n1_ n2_ n3_ n4_ n5_ n6_; (try clear hb); (try clear hb2); (try clear hk); (try clear hi); (try clear ho0)))
           (try simp only [Act.put, s0_, s1_, s2_])
           go_cut [131] (fun v131 wc => ∃ (kq : Nat) (x131_82 : Bool), v131 = .bool x131_82 ∧ Aside0 (laws_FnExactClosedForm.j2 kq t287 t286 x131_82 = some r) ∧ Aside0 (kq ≤ kj53) ∧ Aside0 (Kd.R (Kd.int .i64) 2 wc w.heap.size (fun _ => True) (.slice Ao84 t262.length co84) t287) ∧ Aside0 (Below w.heap.size w wc))
           case first =>
            have H := HC83.out
            clear HC83
            replace H := Option.bind_eq_some_iff.mp H
            obtain ⟨t302, A930, H⟩ := H
            replace H : (if t302 = true then (laws_FnExactClosedForm.j2 kj53 t287 t286 (t299 != t250)) else (laws_FnExactClosedForm.j2 kj53 t287 t286 true)) = some r := H
            have A93 := Aside0.mk A930
            clear A930
            by_cases c94 : t302 = true
            rotate_left
            ·replace c94 := Bool.eq_false_iff.mpr c94
             subst c94
             have H1 : (laws_FnExactClosedForm.j2 kj53 t287 t286 true) = some r := by rw [if_neg (show ¬ (false = true) by decide)] at H; exact H
             clear H
             have H := H1
             clear H1
             have H' := Aside0.mk H
             clear H
             obtain ⟨Ao97, co97, eo97⟩ := Kd.R_slice HO301.out
             subst eo97
             obtain ⟨Ao98, co98, eo98⟩ := Kd.R_slice HO_8.out
             subst eo98
             go_wp2_with (first | ((with_reducible refine gate_callee (f := 20) rfl ?_); refine goesL_ (some 125) rfl rfl Try.func20 (by kernel_rfl) rfl #[.slice Ao97 t298.length co97, .slice Ao98 t249.length co98] rfl (by (try simp only [List.map_toArray, List.map_cons, List.map_nil]); first | done | rfl) ?_; (with_reducible refine (laws_eqInt64S.calls kj53 _ _ t298 _ _ t249 false _ ?side1 ?side2 ?side3 ?side4 A93.out).mono ?_); (case side1 => exact (Kd.R_reads' HO301.out).2.2); (case side2 => exact (Kd.R_reads' HO301.out).2.1); (case side3 => exact (Kd.R_reads' HO_8.out).2.2); (case side4 => exact (Kd.R_reads' HO_8.out).2.1); rintro e w' ⟨rfl, ⟨nd, rfl⟩⟩; refine ⟨_, rfl, ?_⟩))
             go_meet
             case rel => exact ⟨_, (true), (by first | rfl | (simp; done) | (simp [*]; done)), H', ⟨by have := HJ18.out; have := HJ53.out; first | omega | exact Nat.le_refl _⟩, ⟨by exact Kd.R_mono HO_13.out (fun _ hk => trivial)⟩, ⟨by repeat (first | exact HB.out | apply below_alloc | apply pw_below_drewN | apply below_drew1)⟩⟩
            subst c94
            have H1 : (laws_FnExactClosedForm.j2 kj53 t287 t286 (t299 != t250)) = some r := by rw [if_pos rfl] at H; exact H
            clear H
            have H := H1
            clear H1
            have H' := Aside0.mk H
            clear H
            obtain ⟨Ao95, co95, eo95⟩ := Kd.R_slice HO301.out
            subst eo95
            obtain ⟨Ao96, co96, eo96⟩ := Kd.R_slice HO_8.out
            subst eo96
            go_wp2_with (first | ((with_reducible refine gate_callee (f := 20) rfl ?_); refine goesL_ (some 125) rfl rfl Try.func20 (by kernel_rfl) rfl #[.slice Ao95 t298.length co95, .slice Ao96 t249.length co96] rfl (by (try simp only [List.map_toArray, List.map_cons, List.map_nil]); first | done | rfl) ?_; (with_reducible refine (laws_eqInt64S.calls kj53 _ _ t298 _ _ t249 true _ ?side1 ?side2 ?side3 ?side4 A93.out).mono ?_); (case side1 => exact (Kd.R_reads' HO301.out).2.2); (case side2 => exact (Kd.R_reads' HO301.out).2.1); (case side3 => exact (Kd.R_reads' HO_8.out).2.2); (case side4 => exact (Kd.R_reads' HO_8.out).2.1); rintro e w' ⟨rfl, ⟨nd, rfl⟩⟩; refine ⟨_, rfl, ?_⟩))
            go_meet
            case rel => exact ⟨_, ((t299 != t250)), (by first | rfl | (simp; done) | (simp [*]; done)), H', ⟨by have := HJ18.out; have := HJ53.out; first | omega | exact Nat.le_refl _⟩, ⟨by exact Kd.R_mono HO_13.out (fun _ hk => trivial)⟩, ⟨by repeat (first | exact HB.out | apply below_alloc | apply pw_below_drewN | apply below_drew1)⟩⟩
           case rest =>
            clear HC83
            try clear c1
            try clear c2
            try clear p2
            try clear c3
            try clear c4
            try clear c4b0
            try clear c4b1
            try clear c5
            try clear c6
            try clear c6b0
            try clear c7
            try clear c8
            try clear c9
            try clear c9b0
            try clear c12
            try clear c15
            try clear c17
            try clear c18
            try clear c20
            try clear c21
            try clear c22
            try clear c23
            try clear c24
            try clear c36
            try clear c41
            try clear c44
            try clear c47
            try clear c50
            try clear c57
            try clear c58
            try clear c65
            try clear c65b0
            try clear c67
            try clear c72
            try clear c75
            try clear c75b0
            try clear c78
            try clear c78b0
            try clear c78b1
            try clear c79
            try clear c80
            try clear c81
            try clear c94
            try clear p2
            obtain ⟨kq, x131_82, rfl, HA, HJ82, HO_13, HB⟩ := hcut
            have hl13_82 := (Kd.R_reads' HO_13.out).1
            rw [hl13_82] at HO_13
            (try simp only [hl13_82])
            cases kq with
            | zero => exact absurd HA.out (by simp [laws_FnExactClosedForm.j2])
            | succ kj82 =>
             have H := HA.out
             clear HA
             simp only [laws_FnExactClosedForm.j2] at H
             by_cases c99 : x131_82 = true
             rotate_left
             ·replace c99 := Bool.eq_false_iff.mpr c99
              subst c99
              have H1 : ((laws_heldInt64S.f kj82 t287 1).bind fun t303 => (if t303 < 0 then (some false) else (if t303 = t286 then (some true) else (some false)))) = some r := by rw [if_neg (show ¬ (false = true) by decide)] at H; exact H
              clear H
              have H := H1
              clear H1
              replace H := Option.bind_eq_some_iff.mp H
              obtain ⟨t303, A1000, H⟩ := H
              replace H : (if t303 < 0 then (some false) else (if t303 = t286 then (some true) else (some false))) = some r := H
              have A100 := Aside0.mk A1000
              clear A1000
              by_cases c101 : t303 < 0
              rotate_left
              ·rw [if_neg c101] at H
               have c101b0 : decide (t303 < 0) = false := decide_eq_false c101
               clear c101
               by_cases c102 : t303 = t286
               rotate_left
               ·rw [if_neg c102] at H
                have c102b0 : (t303 == t286) = false := beq_eq_false_iff_ne.mpr c102
                have c102b1 : (t303 != t286) = true := bne_iff_ne.mpr c102
                obtain rfl := Option.some.inj H
                go_wp2_with (first | ((with_reducible refine gate_callee (f := 24) rfl ?_); refine goesL_ (some 134) rfl rfl Try.func24 (by kernel_rfl) rfl #[.slice Ao84 t287.length co84, .int .i64 1] rfl (by (try simp only [List.map_toArray, List.map_cons, List.map_nil]); first | done | rfl) ?_; (with_reducible refine (laws_heldInt64S.calls kj82 _ _ t287 1 t303 _ ?side1 ?side2 A100.out).mono ?_); (case side1 => exact (Kd.R_reads' HO_13.out).2.2); (case side2 => exact (Kd.R_reads' HO_13.out).2.1); rintro e w' ⟨rfl, ⟨nd, rfl⟩⟩; refine ⟨_, rfl, ?_⟩))
                go_ret
                exact ⟨by first | rfl | (simp [errW_none, errW_some] <;> rfl) | (simp [*, errW_none, errW_some] <;> rfl), by repeat (first | exact HB.out | apply below_alloc | apply pw_below_drewN | apply below_drew1)⟩
               rw [if_pos c102] at H
               have c102b0 : (t303 == t286) = true := beq_iff_eq.mpr c102
               have c102b1 : (t303 != t286) = false := bne_eq_false_iff_eq.mpr c102
               clear c102
               obtain rfl := Option.some.inj H
               go_wp2_with (first | ((with_reducible refine gate_callee (f := 24) rfl ?_); refine goesL_ (some 134) rfl rfl Try.func24 (by kernel_rfl) rfl #[.slice Ao84 t287.length co84, .int .i64 1] rfl (by (try simp only [List.map_toArray, List.map_cons, List.map_nil]); first | done | rfl) ?_; (with_reducible refine (laws_heldInt64S.calls kj82 _ _ t287 1 t303 _ ?side1 ?side2 A100.out).mono ?_); (case side1 => exact (Kd.R_reads' HO_13.out).2.2); (case side2 => exact (Kd.R_reads' HO_13.out).2.1); rintro e w' ⟨rfl, ⟨nd, rfl⟩⟩; refine ⟨_, rfl, ?_⟩))
               go_ret
               exact ⟨by first | rfl | (simp [errW_none, errW_some] <;> rfl) | (simp [*, errW_none, errW_some] <;> rfl), by repeat (first | exact HB.out | apply below_alloc | apply pw_below_drewN | apply below_drew1)⟩
              rw [if_pos c101] at H
              have c101b0 : decide (t303 < 0) = true := decide_eq_true c101
              clear c101
              obtain rfl := Option.some.inj H
              go_wp2_with (first | ((with_reducible refine gate_callee (f := 24) rfl ?_); refine goesL_ (some 134) rfl rfl Try.func24 (by kernel_rfl) rfl #[.slice Ao84 t287.length co84, .int .i64 1] rfl (by (try simp only [List.map_toArray, List.map_cons, List.map_nil]); first | done | rfl) ?_; (with_reducible refine (laws_heldInt64S.calls kj82 _ _ t287 1 t303 _ ?side1 ?side2 A100.out).mono ?_); (case side1 => exact (Kd.R_reads' HO_13.out).2.2); (case side2 => exact (Kd.R_reads' HO_13.out).2.1); rintro e w' ⟨rfl, ⟨nd, rfl⟩⟩; refine ⟨_, rfl, ?_⟩))
              go_ret
              exact ⟨by first | rfl | (simp [errW_none, errW_some] <;> rfl) | (simp [*, errW_none, errW_some] <;> rfl), by repeat (first | exact HB.out | apply below_alloc | apply pw_below_drewN | apply below_drew1)⟩
             subst c99
             have H1 : (some false) = some r := by rw [if_pos rfl] at H; exact H
             clear H
             have H := H1
             clear H1
             obtain rfl := Option.some.inj H
             go_wp2
             go_ret
             exact ⟨by first | rfl | (simp [errW_none, errW_some] <;> rfl) | (simp [*, errW_none, errW_some] <;> rfl), by repeat (first | exact HB.out | apply below_alloc | apply pw_below_drewN | apply below_drew1)⟩
          rw [if_pos c75] at H
          have c75b0 : decide (t288 < 0) = true := decide_eq_true c75
          clear c75
          obtain rfl := Option.some.inj H
          obtain ⟨Ao76, co76, eo76⟩ := Kd.R_slice HO_13.out
          subst eo76
          go_wp2_with (first | ((with_reducible refine gate_callee (f := 23) rfl ?_); refine goesL_ (some 104) rfl rfl Try.func23 (by kernel_rfl) rfl #[.slice Ao76 t262.length co76, .int .i64 1] rfl (by (try simp only [List.map_toArray, List.map_cons, List.map_nil]); first | done | rfl) ?_; (with_reducible refine (laws_markInt64S.calls kj53 (fun k_ => some k_ = (.slice Ao76 t262.length co76 : Value).ownBlock) (.slice Ao76 t262.length co76) t262 1 t286 t287 w _ ?side1 ?side2 A73.out).mono ?_); (case side1 => repeat (first | (with_reducible first | exact HB.out | apply below_alloc | apply pw_below_drewN | apply below_drew1) | exact HB.out)); (case side2 => exact Kd.R_tight rfl HO_13.out); rintro e w77 ⟨rfl, hy0, hb, hkp⟩; refine ⟨_, rfl, ?_⟩; have n0_ := Aside0.mk (Kd.R_mono (ok' := fun k_ => some k_ ≠ (.slice Ao76 t262.length co76 : Value).ownBlock) (Kd.R_keptB (HO_8.out) hkp (fun k_ hk_ hs_ => (hk_) hs_)) (fun k_ hk_ => hk_.1)); have n1_ := Aside0.mk (Kd.R_reok rfl hy0 (fun k_ e_ => HO_13.out.1 k_ e_)); have n2_ := Aside0.mk (hb); clear HO_8; clear HO_13; clear HB; have HO_8 := n0_; have HO_13 := n1_; have HB := n2_; clear n0_ n1_ n2_; (try clear hb); (try clear hkp); (try clear hy0)) | ((with_reducible refine gate_callee (f := 24) rfl ?_); refine goesL_ (some 107) rfl rfl Try.func24 (by kernel_rfl) rfl #[.slice Ao76 t287.length co76, .int .i64 1] rfl (by (try simp only [List.map_toArray, List.map_cons, List.map_nil]); first | done | (rw [show t287.length = t262.length from (Kd.R_reads' HO_13.out).1.symm] <;> rfl) | rfl | (simp only [List.length_drop, List.length_take]; rfl)) ?_; (with_reducible refine (laws_heldInt64S.calls kj53 _ _ t287 1 t288 _ ?side1 ?side2 A74.out).mono ?_); (case side1 => exact (Kd.R_reads' HO_13.out).2.2); (case side2 => rw [show t287.length = t262.length from (Kd.R_reads' HO_13.out).1.symm]; exact (Kd.R_reads' HO_13.out).2.1); rintro e w' ⟨rfl, ⟨nd, rfl⟩⟩; refine ⟨_, rfl, ?_⟩))
          go_ret
          exact ⟨by first | rfl | (simp [errW_none, errW_some] <;> rfl) | (simp [*, errW_none, errW_some] <;> rfl), by repeat (first | exact HB.out | apply below_alloc | apply pw_below_drewN | apply below_drew1)⟩
         subst c72
         have H1 : (some false) = some r := by rw [if_pos rfl] at H; exact H
         clear H
         have H := H1
         clear H1
         obtain rfl := Option.some.inj H
         go_wp2
         go_ret
         exact ⟨by first | rfl | (simp [errW_none, errW_some] <;> rfl) | (simp [*, errW_none, errW_some] <;> rfl), by repeat (first | exact HB.out | apply below_alloc | apply pw_below_drewN | apply below_drew1)⟩
      subst c41
      have H1 : (some false) = some r := by rw [if_pos rfl] at H; exact H
      clear H
      have H := H1
      clear H1
      obtain rfl := Option.some.inj H
      go_wp2
      go_ret
      exact ⟨by first | rfl | (simp [errW_none, errW_some] <;> rfl) | (simp [*, errW_none, errW_some] <;> rfl), by repeat (first | exact HB.out | apply below_alloc | apply pw_below_drewN | apply below_drew1)⟩
   rw [if_pos c9] at H
   have c9b0 : decide (t239 < 0) = true := decide_eq_true c9
   clear c9
   obtain rfl := Option.some.inj H
   go_enter Try.func12, Try.ntmps12
   go_wp2_with (first | ((with_reducible refine gate_callee (f := 15) rfl ?_); refine goesL_ (some 25) rfl rfl Try.func15 (by kernel_rfl) rfl #[.slice A0 l0.length c0, .int .i64 1048576] rfl (by (try simp only [List.map_toArray, List.map_cons, List.map_nil]); first | done | rfl) ?_; (with_reducible refine (laws_szSyllableS.calls k _ _ l0 1048576 t238 _ ?side1 ?side2 A5.out).mono ?_); (case side1 => exact HR0.out); (case side2 => exact HC0.out); rintro e w10 ⟨rfl, hb⟩; refine ⟨_, rfl, ?_⟩; have n0_ := Aside0.mk (below_step (by repeat (first | exact HB.out | apply below_alloc | apply pw_below_drewN | apply below_drew1)) hb); clear HB; have HB := n0_; clear n0_; (try clear hb); (try clear hb2); (try clear hk); (try clear hi)) | ((with_reducible refine gate_callee (f := 78) rfl ?_); refine goesL_ (some 30) rfl rfl Try.func78 (by kernel_rfl) rfl #[.slice A2 l2.length c2, .int .i64 t238] rfl (by (try simp only [List.map_toArray, List.map_cons, List.map_nil]); first | done | rfl) ?_; (with_reducible refine (laws_szInt64SS.calls k _ _ l2 t238 t239 _ ?side1 ?side2 A8.out).mono ?_); (case side1 => exact (Kd.C_below HR2.out HB.out)); (case side2 => exact HC2.out); rintro e w' ⟨rfl, ⟨nd, rfl⟩⟩; refine ⟨_, rfl, ?_⟩))
   go_ret
   exact ⟨by first | rfl | (simp [errW_none, errW_some] <;> rfl) | (simp [*, errW_none, errW_some] <;> rfl), by repeat (first | exact HB.out | apply below_alloc | apply pw_below_drewN | apply below_drew1)⟩
  rw [if_pos c6] at H
  have c6b0 : decide (t238 < 0) = true := decide_eq_true c6
  clear c6
  obtain rfl := Option.some.inj H
  go_enter Try.func12, Try.ntmps12
  go_wp2_with (first | ((with_reducible refine gate_callee (f := 15) rfl ?_); refine goesL_ (some 25) rfl rfl Try.func15 (by kernel_rfl) rfl #[.slice A0 l0.length c0, .int .i64 1048576] rfl (by (try simp only [List.map_toArray, List.map_cons, List.map_nil]); first | done | rfl) ?_; (with_reducible refine (laws_szSyllableS.calls k _ _ l0 1048576 t238 _ ?side1 ?side2 A5.out).mono ?_); (case side1 => exact HR0.out); (case side2 => exact HC0.out); rintro e w7 ⟨rfl, hb⟩; refine ⟨_, rfl, ?_⟩; have n0_ := Aside0.mk (below_step (by repeat (first | exact HB.out | apply below_alloc | apply pw_below_drewN | apply below_drew1)) hb); clear HB; have HB := n0_; clear n0_; (try clear hb); (try clear hb2); (try clear hk); (try clear hi)))
  go_ret
  exact ⟨by first | rfl | (simp [errW_none, errW_some] <;> rfl) | (simp [*, errW_none, errW_some] <;> rfl), by repeat (first | exact HB.out | apply below_alloc | apply pw_below_drewN | apply below_drew1)⟩
 rw [if_pos c4] at H
 have c4b0 : decide (1048576 < (l1.length : Int)) = true := decide_eq_true c4
 have c4b1 : decide (1048576 < l1.length) = true := decide_eq_true (by omega)
 clear c4
 obtain rfl := Option.some.inj H
 go_enter Try.func12, Try.ntmps12
 go_wp2
 go_ret
 exact ⟨by first | rfl | (simp [errW_none, errW_some] <;> rfl) | (simp [*, errW_none, errW_some] <;> rfl), by repeat (first | exact HB.out | apply below_alloc | apply pw_below_drewN | apply below_drew1)⟩

end Go.Proofs.Ytfledgccnaknpaa.PFnExactClosedForm
