-- written by xprint.py, a program of this repo over the kit's print; not trusted: Lean checks it
import Derived.Test.YtfledgccnaknpaaPFnExactClosedFormx0
import Derived.Test.YtfledgccnaknpaaPFnExactClosedFormx10
namespace Go.Proofs.Ytfledgccnaknpaa.PFnExactClosedForm
open Go.RowKit Go.Proofs.YtfledgccnaknpaaW.PrintWords Go.Proofs.YtfledgccnaknpaaW.PrintLast Go.Proofs.YtfledgccnaknpaaW.PrintMore
attribute [local go_sem] max2_int min2_int max_two min_two max_three min_three max_four min_four   -- for this text's walks alone
set_option linter.unusedVariables false
set_option linter.unusedSimpArgs false

open Go.Proofs.YtfledgccnaknpaaXW (unds_ putU val_)
open List renaming setIfInBounds_toArray → s0_, set_cons_zero → s1_, set_cons_succ → s2_
abbrev bz11_0 : Array Bool := #[false,false,false,false,false,false,false,false,false,false,false,false,false,false,false,false,false,false,false,false,false,false,false,false,false,false,false,false,false,false,false,false,false,false,false,false,false,false,false,false,false,false,false,false,false,false,false,false,false,false,false,false]
abbrev bz11_1 : Array Bool := #[true,false,false,false,false,false,false,false,false,false,false,false,false,false,false,false,false,false,false,false,false,false,false,false,false,false,false,false,false,false,false,false,false,false,false,false,false,false,false,false,false,false,false,false,false,false,false,false,false,false,false,false]
abbrev bz11_2 : Array Bool := #[true,true,false,false,false,false,false,false,false,false,false,false,false,false,false,false,false,false,false,false,false,false,false,false,false,false,false,false,false,false,false,false,false,false,false,false,false,false,false,false,false,false,false,false,false,false,false,false,false,false,false,false]
abbrev bz11_3 : Array Bool := #[true,true,true,false,false,false,false,false,false,false,false,false,false,false,false,false,false,false,false,false,false,false,false,false,false,false,false,false,false,false,false,false,false,false,false,false,false,false,false,false,false,false,false,false,false,false,false,false,false,false,false,false]
abbrev bz11_4 : Array Bool := #[true,true,true,true,false,false,false,false,false,false,false,false,false,false,false,false,false,false,false,false,false,false,false,false,false,false,false,false,false,false,false,false,false,false,false,false,false,false,false,false,false,false,false,false,false,false,false,false,false,false,false,false]
abbrev bz11_5 : Array Bool := #[true,true,true,true,true,false,false,false,false,false,false,false,false,false,false,false,false,false,false,false,false,false,false,false,false,false,false,false,false,false,false,false,false,false,false,false,false,false,false,false,false,false,false,false,false,false,false,false,false,false,false,false]
abbrev bz11_6 : Array Bool := #[true,true,true,true,true,true,false,false,false,false,false,false,false,false,false,false,false,false,false,false,false,false,false,false,false,false,false,false,false,false,false,false,false,false,false,false,false,false,false,false,false,false,false,false,false,false,false,false,false,false,false,false]
abbrev bz11_7 : Array Bool := #[true,true,true,true,true,true,true,false,false,false,false,false,false,false,false,false,false,false,false,false,false,false,false,false,false,false,false,false,false,false,false,false,false,false,false,false,false,false,false,false,false,false,false,false,false,false,false,false,false,false,false,false]
abbrev bz11_8 : Array Bool := #[true,true,true,true,true,true,true,true,false,false,false,false,false,false,false,false,false,false,false,false,false,false,false,false,false,false,false,false,false,false,false,false,false,false,false,false,false,false,false,false,false,false,false,false,false,false,false,false,false,false,false,false]
abbrev bz11_9 : Array Bool := #[true,true,true,true,true,true,true,true,true,false,false,false,false,false,false,false,false,false,false,false,false,false,false,false,false,false,false,false,false,false,false,false,false,false,false,false,false,false,false,false,false,false,false,false,false,false,false,false,false,false,false,false]
abbrev bz11_10 : Array Bool := #[true,true,true,true,true,true,true,true,true,true,false,false,false,false,false,false,false,false,false,false,false,false,false,false,false,false,false,false,false,false,false,false,false,false,false,false,false,false,false,false,false,false,false,false,false,false,false,false,false,false,false,false]
abbrev bz11_11 : Array Bool := #[true,true,true,true,true,true,true,true,true,true,true,false,false,false,false,false,false,false,false,false,false,false,false,false,false,false,false,false,false,false,false,false,false,false,false,false,false,false,false,false,false,false,false,false,false,false,false,false,false,false,false,false]
abbrev bz11_12 : Array Bool := #[true,true,true,true,true,true,true,true,true,true,true,true,false,false,false,false,false,false,false,false,false,false,false,false,false,false,false,false,false,false,false,false,false,false,false,false,false,false,false,false,false,false,false,false,false,false,false,false,false,false,false,false]
abbrev bz11_13 : Array Bool := #[true,true,true,true,true,true,true,true,true,true,true,true,false,true,false,false,false,false,false,false,false,false,false,false,false,false,false,false,false,false,false,false,false,false,false,false,false,false,false,false,false,false,false,false,false,false,false,false,false,false,false,false]
abbrev bz11_14 : Array Bool := #[true,true,true,true,true,true,true,true,true,true,true,true,false,true,true,false,false,false,false,false,false,false,false,false,false,false,false,false,false,false,false,false,false,false,false,false,false,false,false,false,false,false,false,false,false,false,false,false,false,false,false,false]
abbrev bz11_15 : Array Bool := #[true,true,true,true,true,true,true,true,true,true,true,true,true,true,true,false,false,false,false,false,false,false,false,false,false,false,false,false,false,false,false,false,false,false,false,false,false,false,false,false,false,false,false,false,false,false,false,false,false,false,false,false]
abbrev bz11_16 : Array Bool := #[true,true,true,true,true,true,true,true,true,true,true,true,true,true,true,true,false,false,false,false,false,false,false,false,false,false,false,false,false,false,false,false,false,false,false,false,false,false,false,false,false,false,false,false,false,false,false,false,false,false,false,false]
abbrev bz11_17 : Array Bool := #[true,true,true,true,true,true,true,true,true,true,true,true,true,true,true,true,true,false,false,false,false,false,false,false,false,false,false,false,false,false,false,false,false,false,false,false,false,false,false,false,false,false,false,false,false,false,false,false,false,false,false,false]
abbrev bz11_18 : Array Bool := #[true,true,true,true,true,true,true,true,true,true,true,true,true,true,true,true,true,true,false,false,false,false,false,false,false,false,false,false,false,false,false,false,false,false,false,false,false,false,false,false,false,false,false,false,false,false,false,false,false,false,false,false]
abbrev bz11_19 : Array Bool := #[true,true,true,true,true,true,true,true,true,true,true,true,true,true,true,true,true,true,true,false,false,false,false,false,false,false,false,false,false,false,false,false,false,false,false,false,false,false,false,false,false,false,false,false,false,false,false,false,false,false,false,false]
abbrev bz11_20 : Array Bool := #[true,true,true,true,true,true,true,true,true,true,true,true,true,true,true,true,true,true,true,true,true,true,true,true,true,true,true,true,true,true,true,true,true,true,false,false,false,false,false,false,false,false,false,false,false,false,false,false,false,false,false,false]
abbrev bz11_21 : Array Bool := #[true,true,true,true,true,true,true,true,true,true,true,true,true,true,true,true,true,true,true,true,true,true,true,true,true,true,true,true,true,true,true,true,true,true,true,false,false,false,false,false,false,false,false,false,false,false,false,false,false,false,false,false]
abbrev bz11_22 : Array Bool := #[true,true,true,true,true,true,true,true,true,true,true,true,true,true,true,true,true,true,true,true,true,true,true,true,true,true,true,true,true,true,true,true,true,true,true,true,false,false,false,false,false,false,false,false,false,false,false,false,false,false,false,false]
abbrev bz11_23 : Array Bool := #[true,true,true,true,true,true,true,true,true,true,true,true,true,true,true,true,true,true,true,true,true,true,true,true,true,true,true,true,true,true,true,true,true,true,true,true,true,true,true,true,true,true,true,true,true,true,true,true,true,true,true,false]
abbrev bz11_24 : Array Bool := #[true,true,true,true,true,true,true,true,true,true,true,true,true,true,true,true,true,true,true,true,true,true,true,true,true,true,true,true,true,true,true,true,true,true,true,true,true,true,true,true,true,true,true,true,true,true,true,true,true,true,true,true]
abbrev bz11_25 : Array Bool := #[true,true,true,true,true,true,true,true,true,true,true,true,true,true,true,true,true,true,true,true,false,false,false,false,false,false,false,false,false,false,false,false,false,false,false,false,false,false,false,false,false,false,false,false,false,false,false,false,false,false,false,false]
abbrev bz11_26 : Array Bool := #[true,true,true,true,true,true,true,true,true,true,true,true,true,true,true,true,true,true,true,true,true,false,false,false,false,false,false,false,false,false,false,false,false,false,false,false,false,false,false,false,false,false,false,false,false,false,false,false,false,false,false,false]
abbrev bz11_27 : Array Bool := #[true,true,true,true,true,true,true,true,true,true,true,true,true,true,true,true,true,true,true,true,true,true,false,false,false,false,false,false,false,false,false,false,false,false,false,false,false,false,false,false,false,false,false,false,false,false,false,false,false,false,false,false]
abbrev bz11_28 : Array Bool := #[true,true,true,true,true,true,true,true,true,true,true,true,true,true,true,true,true,true,true,true,true,true,false,false,false,false,true,false,false,false,false,false,false,false,false,false,false,false,false,false,false,false,false,false,false,false,false,false,false,false,false,false]
abbrev bz11_29 : Array Bool := #[true,true,true,true,true,true,true,true,true,true,true,true,true,true,true,true,true,true,true,true,true,true,false,false,false,false,true,true,false,false,false,false,false,false,false,false,false,false,false,false,false,false,false,false,false,false,false,false,false,false,false,false]
abbrev bz11_30 : Array Bool := #[true,true,true,true,true,true,true,true,true,true,true,true,true,true,true,true,true,true,true,true,true,true,false,false,false,false,true,true,true,false,false,false,false,false,false,false,false,false,false,false,false,false,false,false,false,false,false,false,false,false,false,false]
abbrev bz11_31 : Array Bool := #[true,true,true,true,true,true,true,true,true,true,true,true,true,true,true,true,true,true,true,true,true,true,true,false,false,false,true,true,true,false,false,false,false,false,false,false,false,false,false,false,false,false,false,false,false,false,false,false,false,false,false,false]
abbrev bz11_32 : Array Bool := #[true,true,true,true,true,true,true,true,true,true,true,true,true,true,true,true,true,true,true,true,true,true,true,true,false,false,true,true,true,false,false,false,false,false,false,false,false,false,false,false,false,false,false,false,false,false,false,false,false,false,false,false]
abbrev bz11_33 : Array Bool := #[true,true,true,true,true,true,true,true,true,true,true,true,true,true,true,true,true,true,true,true,true,true,true,true,true,false,true,true,true,false,false,false,false,false,false,false,false,false,false,false,false,false,false,false,false,false,false,false,false,false,false,false]
abbrev bz11_34 : Array Bool := #[true,true,true,true,true,true,true,true,true,true,true,true,true,true,true,true,true,true,true,true,true,true,true,true,true,true,true,true,true,false,false,false,false,false,false,false,false,false,false,false,false,false,false,false,false,false,false,false,false,false,false,false]
abbrev bz11_35 : Array Bool := #[true,true,true,true,true,true,true,true,true,true,true,true,true,true,true,true,true,true,true,true,true,true,true,true,true,true,true,true,true,true,false,false,false,false,false,false,false,false,false,false,false,false,false,false,false,false,false,false,false,false,false,false]
abbrev bz11_36 : Array Bool := #[true,true,true,true,true,true,true,true,true,true,true,true,true,true,true,true,true,true,true,true,true,true,true,true,true,true,true,true,true,true,true,false,false,false,false,false,false,false,false,false,false,false,false,false,false,false,false,false,false,false,false,false]
abbrev bz11_37 : Array Bool := #[true,true,true,true,true,true,true,true,true,true,true,true,true,true,true,true,true,true,true,true,true,true,true,true,true,true,true,true,true,true,true,true,false,false,false,false,false,false,false,false,false,false,false,false,false,false,false,false,false,false,false,false]
abbrev bz11_38 : Array Bool := #[true,true,true,true,true,true,true,true,true,true,true,true,true,true,true,true,true,true,true,true,true,true,true,true,true,true,true,true,true,true,true,true,true,false,false,false,false,false,false,false,false,false,false,false,false,false,false,false,false,false,false,false]
abbrev bz11_39 : Array Bool := #[true,true,true,true,true,true,true,true,true,true,true,true,true,true,true,true,true,true,true,true,true,true,true,true,true,true,true,true,true,true,true,true,true,true,true,true,true,false,false,false,false,false,false,false,false,false,false,false,false,false,false,false]
abbrev bz11_40 : Array Bool := #[true,true,true,true,true,true,true,true,true,true,true,true,true,true,true,true,true,true,true,true,true,true,true,true,true,true,true,true,true,true,true,true,true,true,true,true,true,true,false,false,false,false,false,false,false,false,false,false,false,false,false,false]
abbrev bz11_41 : Array Bool := #[true,true,true,true,true,true,true,true,true,true,true,true,true,true,true,true,true,true,true,true,true,true,true,true,true,true,true,true,true,true,true,true,true,true,true,true,true,true,true,false,false,false,false,false,false,false,false,false,false,false,false,false]
abbrev bz11_42 : Array Bool := #[true,true,true,true,true,true,true,true,true,true,true,true,true,true,true,true,true,true,true,true,true,true,true,true,true,true,true,true,true,true,true,true,true,true,true,true,true,true,true,true,false,false,false,false,false,false,false,false,false,false,false,false]
abbrev bz11_43 : Array Bool := #[true,true,true,true,true,true,true,true,true,true,true,true,true,true,true,true,true,true,true,true,true,true,true,true,true,true,true,true,true,true,true,true,true,true,true,true,true,true,true,true,true,false,false,false,false,false,false,false,false,false,false,false]
abbrev bz11_44 : Array Bool := #[true,true,true,true,true,true,true,true,true,true,true,true,true,true,true,true,true,true,true,true,true,true,true,true,true,true,true,true,true,true,true,true,true,true,true,true,true,true,true,true,true,false,true,false,false,false,false,false,false,false,false,false]
abbrev bz11_45 : Array Bool := #[true,true,true,true,true,true,true,true,true,true,true,true,true,true,true,true,true,true,true,true,true,true,true,true,true,true,true,true,true,true,true,true,true,true,true,true,true,true,true,true,true,false,true,true,false,false,false,false,false,false,false,false]
abbrev bz11_46 : Array Bool := #[true,true,true,true,true,true,true,true,true,true,true,true,true,true,true,true,true,true,true,true,true,true,true,true,true,true,true,true,true,true,true,true,true,true,true,true,true,true,true,true,true,false,true,true,true,false,false,false,false,false,false,false]
abbrev bz11_47 : Array Bool := #[true,true,true,true,true,true,true,true,true,true,true,true,true,true,true,true,true,true,true,true,true,true,true,true,true,true,true,true,true,true,true,true,true,true,true,true,true,true,true,true,true,false,true,true,true,true,false,false,false,false,false,false]
abbrev bz11_48 : Array Bool := #[true,true,true,true,true,true,true,true,true,true,true,true,true,true,true,true,true,true,true,true,true,true,true,true,true,true,true,true,true,true,true,true,true,true,true,true,true,true,true,true,true,true,true,true,true,true,false,false,false,false,false,false]
abbrev bz11_49 : Array Bool := #[true,true,true,true,true,true,true,true,true,true,true,true,true,true,true,true,true,true,true,true,true,true,true,true,true,true,true,true,true,true,true,true,true,true,true,true,true,true,true,true,true,true,true,true,true,true,true,false,false,false,false,false]
abbrev bz11_50 : Array Bool := #[true,true,true,true,true,true,true,true,true,true,true,true,true,true,true,true,true,true,true,true,true,true,true,true,true,true,true,true,true,true,true,true,true,true,true,true,true,true,true,true,true,true,true,true,true,true,true,true,false,false,false,false]
abbrev bz11_51 : Array Bool := #[true,true,true,true,true,true,true,true,true,true,true,true,true,true,true,true,true,true,true,true,true,true,true,true,true,true,true,true,true,true,true,true,true,true,true,true,true,true,true,true,true,true,true,true,true,true,true,true,true,false,false,false]
abbrev bz11_52 : Array Bool := #[true,true,true,true,true,true,true,true,true,true,true,true,true,true,true,true,true,true,true,true,true,true,true,true,true,true,true,true,true,true,true,true,true,true,true,true,true,true,true,true,true,true,true,true,true,true,true,true,true,true,false,false]
/-! ### impl_pairsOk: function 160 -/
def impl_pairsOk.l0 : Nat → List (S103) → List (List Int) → List (List Int) → Int → Int → Option (Bool)
 | 0, _, _, _, _, _ => none
 | k + 1, x0, x1, x10, x11, x12 => if x12 < x11 then (if 0 ≤ x12 then (if x12 < (x10.length : Int) then (if ((rd_L5 x10 x12).length : Int) = 2 then ((impl_composedOk.f x0 (rd_L5 x10 x12)).bind fun t215 => (if t215 = true then (if 0 < ((rd_L5 x10 x12).length : Int) then (if 1 < ((rd_L5 x10 x12).length : Int) then (if (rd (rd_L5 x10 x12) 0) = (rd (rd_L5 x10 x12) 1) then (some false) else (if 0 ≤ (rd (rd_L5 x10 x12) 0) then (if (rd (rd_L5 x10 x12) 0) < (x0.length : Int) then (if 0 ≤ (rd (rd_L5 x10 x12) 1) then (if (rd (rd_L5 x10 x12) 1) < (x0.length : Int) then (if ((rd_T103 x0 (rd (rd_L5 x10 x12) 0)).f2) = ((rd_T103 x0 (rd (rd_L5 x10 x12) 1)).f2) then (if x12 > 0 then (if 0 ≤ (wrap64 (x12 - 1)) then (if (wrap64 (x12 - 1)) < (x1.length : Int) then (if 0 < ((rd_L5 x1 (wrap64 (x12 - 1))).length : Int) then (if (rd (rd_L5 x10 x12) 0) ≤ (rd (rd_L5 x1 (wrap64 (x12 - 1))) 0) then (some false) else (impl_pairsOk.l0 k x0 x1 x10 x11 (wrap64 (x12 + 1)))) else (none)) else (none)) else (none)) else (impl_pairsOk.l0 k x0 x1 x10 x11 (wrap64 (x12 + 1)))) else (some false)) else (none)) else (none)) else (none)) else (none))) else (none)) else (none)) else (some false))) else (some false)) else (none)) else (none)) else (some true)
def impl_pairsOk.f (k : Nat) (l0 : List (S103)) (l1 : List (List Int)) : Option (Bool) := if (l1.length : Int) > 8 then (some false) else (impl_pairsOk.l0 k l0 l1 l1 (l1.length : Int) 0)
theorem impl_pairsOk.mono_l : ∀ k, (∀ y0 y1 y2 y3 y4, LeO (impl_pairsOk.l0 k y0 y1 y2 y3 y4) (impl_pairsOk.l0 (k + 1) y0 y1 y2 y3 y4))
 | 0 => fun _ _ _ _ _ r h => by simp [impl_pairsOk.l0] at h
 | k + 1 => by
  have ih0 := impl_pairsOk.mono_l k
  ·intro y0 y1 y2 y3 y4
   unfold impl_pairsOk.l0
   repeat' first
   | (with_reducible exact ih0 _ _ _ _ _)
   | (with_reducible exact LeO.refl _)
   | (with_reducible exact LeO.none _)
   | (with_reducible refine LeO.ite ?_ ?_)
   | (with_reducible refine LeO.bind ?_ (fun _ => ?_))
   | exact ih0 _ _ _ _ _
   | exact LeO.none _
   | refine LeO.ite ?_ ?_
   | refine LeO.bind ?_ (fun _ => ?_)
theorem impl_pairsOk.mono : ∀ a0 a1 k, LeO (impl_pairsOk.f k a0 a1) (impl_pairsOk.f (k + 1) a0 a1) := by
 intro a0 a1 k
 have ih0 := impl_pairsOk.mono_l k
 unfold impl_pairsOk.f
 repeat' first
   | (with_reducible exact ih0 _ _ _ _ _)
   | (with_reducible exact LeO.refl _)
   | (with_reducible exact LeO.none _)
   | (with_reducible refine LeO.ite ?_ ?_)
   | (with_reducible refine LeO.bind ?_ (fun _ => ?_))
   | exact ih0 _ _ _ _ _
   | exact LeO.none _
   | refine LeO.ite ?_ ?_
   | refine LeO.bind ?_ (fun _ => ?_)
def impl_pairsOk.T6 : Bool × List (List Nat × List Nat) := (true, [([], []), ([0], [0]), ([1], [1]), ([2], [2]), ([3], [3]), ([3], [3]), ([4, 5, 3, 3], [3, 4, 5]), ([6, 3], [3, 6]), ([3, 7], [3, 7]), ([8, 6], [8]), ([9], [9]), ([10, 9], [9, 10]), ([11, 9], [9, 11]), ([9], [9]), ([13, 9], [9, 13]), ([14, 9], [9, 14]), ([12, 15, 9], [9, 12, 15]), ([9, 16], [9, 16]), ([17, 9], [17]), ([18], [18]), ([18], [18]), ([20, 18], [18, 20]), ([21, 18], [18, 21]), ([19, 22, 18], [18, 19, 22]), ([23, 18], [18, 23]), ([24, 18], [18, 24]), ([18], [18]), ([18], [18]), ([27, 18], [18, 27]), ([28, 18], [18, 28]), ([26, 29, 18], [18, 26, 29]), ([30, 18], [18, 30]), ([31, 18], [18, 31]), ([25, 32, 18], [18, 25, 32]), ([18, 33], [18, 33]), ([34, 18], [34]), ([35], [35]), ([36, 35], [35, 36]), ([37, 35, 35], [35, 37]), ([38], [38]), ([39, 38], [38, 39]), ([40, 38], [38, 40]), ([38], [38]), ([38], [38]), ([43, 38], [38, 43]), ([42, 44, 38], [38, 42, 44]), ([45, 38], [38, 45]), ([46, 38], [38, 46]), ([47, 38], [38, 47]), ([41, 48, 38], [38, 41, 48]), ([38, 49, 35], [35, 38, 49]), ([35, 50], [35, 50])])
def impl_pairsOk.B6 : List Nat := [0, 1, 3, 7, 15, 15, 63, 127, 255, 511, 1023, 2047, 4095, 1023, 9215, 25599, 65535, 131071, 262143, 524287, 524287, 1572863, 3670015, 8388607, 16777215, 33554431, 524287, 524287, 134742015, 403177471, 1007157247, 2080899071, 4228382719, 8589934591, 17179869183, 34359738367, 68719476735, 137438953471, 274877906943, 549755813887, 1099511627775, 2199023255551, 549755813887, 549755813887, 9345848836095, 31336081391615, 66520453480447, 136889197658111, 277626686013439, 562949953421311, 1125899906842623, 2251799813685247]
theorem impl_pairsOk.tab6 : rtab .any (opsOf Try.f160 6) = impl_pairsOk.T6 := by kernel_rfl
theorem impl_pairsOk.bits6 : waitsOk impl_pairsOk.T6.2 impl_pairsOk.B6 = true := by kernel_rfl
set_option maxHeartbeats 8000000 in
set_option maxRecDepth 100000 in
theorem impl_pairsOk.calls (k : Nat) (A0 : Option Addr) (c0 : Nat) (l0 : List (S103)) (A1 : Option Addr) (c1 : Nat) (l1 : List (List Int)) (r : Bool) (w : World) (hr0 : Kd.C k103 w A0 l0.length l0) (hc0 : l0.length ≤ c0) (hr1 : Kd.C (Kd.slice 2 (Kd.int .i64)) w A1 l1.length l1) (hc1 : l1.length ≤ c1) (h : impl_pairsOk.f k l0 l1 = some r) :
  Calls Try.prog 160 #[.slice A0 l0.length c0, .slice A1 l1.length c1] w fun e w' => e = .returned (.bool r) ∧ Below w.heap.size w w' := by
 have HR0 := Aside0.mk hr0
 have HC0 := Aside0.mk hc0
 clear hr0 hc0
 have HR1 := Aside0.mk hr1
 have HC1 := Aside0.mk hc1
 clear hr1 hc1
 have HB := Aside0.mk (Below.refl w.heap.size w)
 have H : (if (l1.length : Int) > 8 then (some false) else (impl_pairsOk.l0 k l0 l1 l1 (l1.length : Int) 0)) = some r := h
 clear h
 by_cases c3 : (l1.length : Int) > 8
 rotate_left
 ·rw [if_neg c3] at H
  have c3b0 : decide (8 < (l1.length : Int)) = false := decide_eq_false c3
  have c3b1 : decide (8 < l1.length) = false := decide_eq_false (by omega)
  clear c3
  have H' := Aside0.mk H
  clear H
  go_enter Try.func160, Try.ntmps160
  go_wp2
  go_loopg [12] k (fun kq v12 w' => ∃ (x12_1 : Int), v12 = .int .i64 x12_1 ∧ Aside0 (impl_pairsOk.l0 kq l0 l1 l1 (l1.length : Int) x12_1 = some r) ∧ Aside0 (kq ≤ k) ∧ Aside0 (Below w.heap.size w w'))
  case atStart => exact ⟨(0), (by first | rfl | (simp; done) | (simp [*]; done)), H', ⟨Nat.le_refl _⟩, ⟨by repeat (first | exact HB.out | apply below_alloc | apply pw_below_drewN | apply below_drew1)⟩⟩
  case round =>
   clear H'
   try clear c1
   try clear p2
   try clear c3
   try clear c3b0
   try clear c3b1
   obtain ⟨x12_1, rfl, HA, HK1, HB⟩ := hrel
   cases gk with
   | zero => exact absurd HA.out (by simp [impl_pairsOk.l0])
   | succ k1 =>
    have H := HA.out
    clear HA
    simp only [impl_pairsOk.l0] at H
    by_cases c4 : x12_1 < (l1.length : Int)
    rotate_left
    ·rw [if_neg c4] at H
     have c4b0 : decide (x12_1 < (l1.length : Int)) = false := decide_eq_false c4
     clear c4
     obtain rfl := Option.some.inj H
     go_wp2
     go_ret
     exact ⟨by first | rfl | (simp [errW_none, errW_some] <;> rfl) | (simp [*, errW_none, errW_some] <;> rfl), by repeat (first | exact HB.out | apply below_alloc | apply pw_below_drewN | apply below_drew1)⟩
    rw [if_pos c4] at H
    have c4b0 : decide (x12_1 < (l1.length : Int)) = true := decide_eq_true c4
    clear c4
    by_cases c5 : 0 ≤ x12_1
    rotate_left
    ·rw [if_neg c5] at H
     exact absurd H (by simp)
    rw [if_pos c5] at H
    have c5b0 : decide (0 ≤ x12_1) = true := decide_eq_true c5
    clear c5
    by_cases c6 : x12_1 < (l1.length : Int)
    rotate_left
    ·rw [if_neg c6] at H
     exact absurd H (by simp)
    rw [if_pos c6] at H
    have c6b0 : decide (x12_1 < (l1.length : Int)) = true := decide_eq_true c6
    clear c6
    by_cases c7 : ((rd_L5 l1 x12_1).length : Int) = 2
    rotate_left
    ·rw [if_neg c7] at H
     have c7b0 : (((rd_L5 l1 x12_1).length : Int) == 2) = false := beq_eq_false_iff_ne.mpr c7
     have c7b1 : (((rd_L5 l1 x12_1).length : Int) != 2) = true := bne_iff_ne.mpr c7
     obtain rfl := Option.some.inj H
     have p214 : 0 ≤ (x12_1 : Int) := of_decide_eq_true (by assumption)
     have q214 : x12_1 < (l1.length : Int) := of_decide_eq_true (by assumption)
     obtain ⟨ad214, A214_0, c214_0, e214, hx214_0, hl214_0, hi214_0⟩ := at_L5 HR1.out x12_1 p214 q214
     cases e214
     replace hx214_0 := (HB.out.cell (World.block_lt_of_cell? w _ hx214_0)).trans hx214_0
     have HR214_0 := Aside0.mk hi214_0
     have HC214_0 := Aside0.mk hl214_0
     clear hi214_0 hl214_0
     replace p214 := eq_true p214
     replace q214 := eq_true q214
     try go_wp2
     have n0_ := Aside0.mk (below_drew1 HB.out)
     clear HB
     have HB := n0_
     clear n0_
     refine start_ (n := 52) (S := fun w' => True) (ds := []) bz11_0 (by kernel_rfl) rfl rfl trivial (fun hHeld => ?_); refine with_tabW impl_pairsOk.tab6 impl_pairsOk.bits6 (fun HT_ HW_ => ?_)
     generalize wr.drew = w36 at HB hHeld ⊢
     refine val_ (v := ?_) (a' := ?_) 0 17 bz11_1 rfl rfl HT_.out (by kernel_rfl) (by rfl) (fun _ _ _ h => h) ?_ ?_ ?_
     rotate_left
     ·intro w'
      go_simp
      with_reducible rfl
     rotate_left
     ·simp only [Act.put, s0_, s1_, s2_, i64_w, i32_w]
      rfl
     refine val_ (v := ?_) (a' := ?_) 1 18 bz11_2 rfl rfl HT_.out (by kernel_rfl) (by rfl) (fun _ _ _ h => h) ?_ ?_ ?_
     rotate_left
     ·intro w'
      go_simp
      with_reducible rfl
     rotate_left
     ·simp only [Act.put, s0_, s1_, s2_, i64_w, i32_w]
      rfl
     refine val_ (v := ?_) (a' := ?_) 2 19 bz11_3 rfl rfl HT_.out (by kernel_rfl) (by rfl) (fun _ _ _ h => h) ?_ ?_ ?_
     rotate_left
     ·intro w'
      go_simp
      with_reducible rfl
     rotate_left
     ·simp only [Act.put, s0_, s1_, s2_, i64_w, i32_w]
      rfl
     refine val_ (v := ?_) (a' := ?_) 3 20 bz11_4 rfl rfl HT_.out (by kernel_rfl) (by rfl) (fun _ _ _ h => h) ?_ ?_ ?_
     rotate_left
     ·intro w'
      go_simp
      with_reducible rfl
     rotate_left
     ·simp only [Act.put, s0_, s1_, s2_, i64_w, i32_w]
      rfl
     refine unds_ [(4, 21), (5, 22), (6, 23), (7, 24)] (a' := ?_) 44 bz11_8 HT_.out (by kernel_rfl) (by kernel_rfl) (fun _ _ _ _ _ h => h) rfl ?_ ?_
     rotate_left
     ·simp only [putU, Act.put, s0_, s1_, s2_, i64_w, i32_w]
      rfl
     refine val_ (v := ?_) (a' := ?_) 8 25 bz11_9 rfl rfl HT_.out (by kernel_rfl) (by rfl) (fun _ _ _ h => h) ?_ ?_ ?_
     rotate_left
     ·intro w'
      go_simp
      with_reducible rfl
     rotate_left
     ·simp only [Act.put, s0_, s1_, s2_, i64_w, i32_w]
      rfl
     refine val_ (v := ?_) (a' := ?_) 9 26 bz11_10 rfl rfl HT_.out (by kernel_rfl) (by rfl) (fun _ _ _ h => h) ?_ ?_ ?_
     rotate_left
     ·intro w'
      go_simp
      with_reducible rfl
     rotate_left
     ·simp only [Act.put, s0_, s1_, s2_, i64_w, i32_w]
      rfl
     refine unds_ [(10, 27), (11, 28), (12, 29), (13, 30), (14, 31), (15, 32), (16, 33)] (a' := ?_) 35 bz11_17 HT_.out (by kernel_rfl) (by kernel_rfl) (fun _ _ _ _ _ h => h) rfl ?_ ?_
     rotate_left
     ·simp only [putU, Act.put, s0_, s1_, s2_, i64_w, i32_w]
      rfl
     refine val_ (v := ?_) (a' := ?_) 17 34 bz11_18 rfl rfl HT_.out (by kernel_rfl) (by rfl) (fun _ _ _ h => h) ?_ ?_ ?_
     rotate_left
     ·intro w'
      go_simp
      with_reducible rfl
     rotate_left
     ·simp only [Act.put, s0_, s1_, s2_, i64_w, i32_w]
      rfl
     refine val_ (v := ?_) (a' := ?_) 18 35 bz11_19 rfl rfl HT_.out (by kernel_rfl) (by rfl) (fun _ _ _ h => h) ?_ ?_ ?_
     rotate_left
     ·intro w'
      go_simp
      with_reducible rfl
     rotate_left
     ·simp only [Act.put, s0_, s1_, s2_, i64_w, i32_w]
      rfl
     refine unds_ [(19, 36), (20, 37), (21, 38), (22, 39), (23, 40), (24, 41), (25, 42), (26, 43), (27, 44), (28, 45), (29, 46), (30, 47), (31, 48), (32, 49), (33, 50)] (a' := ?_) 18 bz11_20 HT_.out (by kernel_rfl) (by kernel_rfl) (fun _ _ _ _ _ h => h) rfl ?_ ?_
     rotate_left
     ·simp only [putU, Act.put, s0_, s1_, s2_, i64_w, i32_w]
      rfl
     refine val_ (v := ?_) (a' := ?_) 34 51 bz11_21 rfl rfl HT_.out (by kernel_rfl) (by rfl) (fun _ _ _ h => h) ?_ ?_ ?_
     rotate_left
     ·intro w'
      go_simp
      with_reducible rfl
     rotate_left
     ·simp only [Act.put, s0_, s1_, s2_, i64_w, i32_w]
      rfl
     refine val_ (v := ?_) (a' := ?_) 35 52 bz11_22 rfl rfl HT_.out (by kernel_rfl) (by rfl) (fun _ _ _ h => h) ?_ ?_ ?_
     rotate_left
     ·intro w'
      go_simp
      with_reducible rfl
     rotate_left
     ·simp only [Act.put, s0_, s1_, s2_, i64_w, i32_w]
      rfl
     refine unds_ [(36, 53), (37, 54), (38, 55), (39, 56), (40, 57), (41, 58), (42, 59), (43, 60), (44, 61), (45, 62), (46, 63), (47, 64), (48, 65), (49, 66), (50, 67)] (a' := ?_) 1 bz11_23 HT_.out (by kernel_rfl) (by kernel_rfl) (fun _ _ _ _ _ h => h) rfl ?_ ?_
     rotate_left
     ·simp only [putU, Act.put, s0_, s1_, s2_, i64_w, i32_w]
      rfl
     refine val_ (v := ?_) (a' := ?_) 51 68 bz11_24 rfl rfl HT_.out (by kernel_rfl) (by rfl) (fun _ _ _ h => h) ?_ ?_ ?_
     rotate_left
     ·intro w'
      go_simp
      with_reducible rfl
     rotate_left
     ·simp only [Act.put, s0_, s1_, s2_, i64_w, i32_w]
      rfl
     refine done_ (done_of HT_.out (by kernel_rfl)) ?_
     try go_wp2
     go_ret
     exact ⟨by first | rfl | (simp [errW_none, errW_some] <;> rfl) | (simp [*, errW_none, errW_some] <;> rfl), by repeat (first | exact HB.out | apply below_alloc | apply pw_below_drewN | apply below_drew1)⟩
    rw [if_pos c7] at H
    have c7b0 : (((rd_L5 l1 x12_1).length : Int) == 2) = true := beq_iff_eq.mpr c7
    have c7b1 : (((rd_L5 l1 x12_1).length : Int) != 2) = false := bne_eq_false_iff_eq.mpr c7
    clear c7
    replace H := Option.bind_eq_some_iff.mp H
    obtain ⟨t215, A80, H⟩ := H
    replace H : (if t215 = true then (if 0 < ((rd_L5 l1 x12_1).length : Int) then (if 1 < ((rd_L5 l1 x12_1).length : Int) then (if (rd (rd_L5 l1 x12_1) 0) = (rd (rd_L5 l1 x12_1) 1) then (some false) else (if 0 ≤ (rd (rd_L5 l1 x12_1) 0) then (if (rd (rd_L5 l1 x12_1) 0) < (l0.length : Int) then (if 0 ≤ (rd (rd_L5 l1 x12_1) 1) then (if (rd (rd_L5 l1 x12_1) 1) < (l0.length : Int) then (if ((rd_T103 l0 (rd (rd_L5 l1 x12_1) 0)).f2) = ((rd_T103 l0 (rd (rd_L5 l1 x12_1) 1)).f2) then (if x12_1 > 0 then (if 0 ≤ (wrap64 (x12_1 - 1)) then (if (wrap64 (x12_1 - 1)) < (l1.length : Int) then (if 0 < ((rd_L5 l1 (wrap64 (x12_1 - 1))).length : Int) then (if (rd (rd_L5 l1 x12_1) 0) ≤ (rd (rd_L5 l1 (wrap64 (x12_1 - 1))) 0) then (some false) else (impl_pairsOk.l0 k1 l0 l1 l1 (l1.length : Int) (wrap64 (x12_1 + 1)))) else (none)) else (none)) else (none)) else (impl_pairsOk.l0 k1 l0 l1 l1 (l1.length : Int) (wrap64 (x12_1 + 1)))) else (some false)) else (none)) else (none)) else (none)) else (none))) else (none)) else (none)) else (some false)) = some r := H
    have A8 := Aside0.mk A80
    clear A80
    by_cases c9 : t215 = true
    rotate_left
    ·replace c9 := Bool.eq_false_iff.mpr c9
     subst c9
     have H1 : (some false) = some r := by rw [if_neg (show ¬ (false = true) by decide)] at H; exact H
     clear H
     have H := H1
     clear H1
     obtain rfl := Option.some.inj H
     have p214 : 0 ≤ (x12_1 : Int) := of_decide_eq_true (by assumption)
     have q214 : x12_1 < (l1.length : Int) := of_decide_eq_true (by assumption)
     obtain ⟨ad214, A214_0, c214_0, e214, hx214_0, hl214_0, hi214_0⟩ := at_L5 HR1.out x12_1 p214 q214
     cases e214
     replace hx214_0 := (HB.out.cell (World.block_lt_of_cell? w _ hx214_0)).trans hx214_0
     have HR214_0 := Aside0.mk hi214_0
     have HC214_0 := Aside0.mk hl214_0
     clear hi214_0 hl214_0
     replace p214 := eq_true p214
     replace q214 := eq_true q214
     try go_wp2
     have n0_ := Aside0.mk (below_drew1 HB.out)
     clear HB
     have HB := n0_
     clear n0_
     refine start_ (n := 52) (S := fun w' => True) (ds := []) bz11_0 (by kernel_rfl) rfl rfl trivial (fun hHeld => ?_); refine with_tabW impl_pairsOk.tab6 impl_pairsOk.bits6 (fun HT_ HW_ => ?_)
     generalize wr.drew = w34 at HB hHeld ⊢
     refine val_ (v := ?_) (a' := ?_) 0 17 bz11_1 rfl rfl HT_.out (by kernel_rfl) (by rfl) (fun _ _ _ h => h) ?_ ?_ ?_
     rotate_left
     ·intro w'
      go_simp
      with_reducible rfl
     rotate_left
     ·simp only [Act.put, s0_, s1_, s2_, i64_w, i32_w]
      rfl
     refine val_ (v := ?_) (a' := ?_) 1 18 bz11_2 rfl rfl HT_.out (by kernel_rfl) (by rfl) (fun _ _ _ h => h) ?_ ?_ ?_
     rotate_left
     ·intro w'
      go_simp
      with_reducible rfl
     rotate_left
     ·simp only [Act.put, s0_, s1_, s2_, i64_w, i32_w]
      rfl
     refine val_ (v := ?_) (a' := ?_) 2 19 bz11_3 rfl rfl HT_.out (by kernel_rfl) (by rfl) (fun _ _ _ h => h) ?_ ?_ ?_
     rotate_left
     ·intro w'
      go_simp
      with_reducible rfl
     rotate_left
     ·simp only [Act.put, s0_, s1_, s2_, i64_w, i32_w]
      rfl
     refine val_ (v := ?_) (a' := ?_) 3 20 bz11_4 rfl rfl HT_.out (by kernel_rfl) (by rfl) (fun _ _ _ h => h) ?_ ?_ ?_
     rotate_left
     ·intro w'
      go_simp
      with_reducible rfl
     rotate_left
     ·simp only [Act.put, s0_, s1_, s2_, i64_w, i32_w]
      rfl
     refine val_ (v := ?_) (a' := ?_) 4 21 bz11_5 rfl rfl HT_.out (by kernel_rfl) (by rfl) (fun _ _ _ h => h) ?_ ?_ ?_
     rotate_left
     ·intro w'
      go_simp
      with_reducible rfl
     rotate_left
     ·simp only [Act.put, s0_, s1_, s2_, i64_w, i32_w]
      rfl
     refine val_ (v := ?_) (a' := ?_) 5 22 bz11_6 rfl rfl HT_.out (by kernel_rfl) (by rfl) (fun _ _ _ h => h) ?_ ?_ ?_
     rotate_left
     ·intro w'
      go_simp
      with_reducible rfl
     rotate_left
     ·simp only [Act.put, s0_, s1_, s2_, i64_w, i32_w]
      rfl
     refine one_ (i := 6) (N := some 23) bz11_7 rfl rfl (one_of HT_.out (by kernel_rfl)) (by decide) (fun K hK => ?_)
     refine goes_ Try.func172 (by kernel_rfl) rfl #[.slice A0 l0.length c0, .slice A214_0 (rd_L5 l1 x12_1).length c214_0] (by rfl) rfl rfl (by (try simp only [List.map_toArray, List.map_cons, List.map_nil]); first | done | rfl) ?_
     with_reducible refine (impl_composedOk.calls _ _ l0 _ _ (rd_L5 l1 x12_1) false _ ?side1 ?side2 ?side3 ?side4 A8.out).mono ?_
     (case side1 => exact (Kd.C_below HR0.out HB.out))
     (case side2 => exact HC0.out)
     (case side3 => exact (Kd.C_below HR214_0.out HB.out))
     (case side4 => exact HC214_0.out)
     rintro e w35 ⟨rfl, hb⟩
     refine ⟨_, rfl, ?_⟩
     have n0_ := Aside0.mk (below_step (by repeat (first | exact HB.out | apply below_alloc | apply pw_below_drewN | apply below_drew1)) hb)
     clear HB
     have HB := n0_
     clear n0_
     (try clear hb)
     (try clear hb2)
     (try clear hk)
     (try clear hi)
     refine hK.out _ _ trivial (fun hHeld => ?_)
     clear hK K
     refine norm_ (a' := ?_) ?_ ?_
     rotate_left
     ·show Act.put _ (some 23) _ = _
      simp only [Act.put, s0_, s1_, s2_, i64_w, i32_w]
      rfl
     refine val_ (v := ?_) (a' := ?_) 7 24 bz11_8 rfl rfl HT_.out (by kernel_rfl) (by rfl) (fun _ _ _ h => h) ?_ ?_ ?_
     rotate_left
     ·intro w'
      go_simp
      with_reducible rfl
     rotate_left
     ·simp only [Act.put, s0_, s1_, s2_, i64_w, i32_w]
      rfl
     refine val_ (v := ?_) (a' := ?_) 8 25 bz11_9 rfl rfl HT_.out (by kernel_rfl) (by rfl) (fun _ _ _ h => h) ?_ ?_ ?_
     rotate_left
     ·intro w'
      go_simp
      with_reducible rfl
     rotate_left
     ·simp only [Act.put, s0_, s1_, s2_, i64_w, i32_w]
      rfl
     refine val_ (v := ?_) (a' := ?_) 9 26 bz11_10 rfl rfl HT_.out (by kernel_rfl) (by rfl) (fun _ _ _ h => h) ?_ ?_ ?_
     rotate_left
     ·intro w'
      go_simp
      with_reducible rfl
     rotate_left
     ·simp only [Act.put, s0_, s1_, s2_, i64_w, i32_w]
      rfl
     refine unds_ [(10, 27), (11, 28), (12, 29), (13, 30), (14, 31), (15, 32), (16, 33)] (a' := ?_) 35 bz11_17 HT_.out (by kernel_rfl) (by kernel_rfl) (fun _ _ _ _ _ h => h) rfl ?_ ?_
     rotate_left
     ·simp only [putU, Act.put, s0_, s1_, s2_, i64_w, i32_w]
      rfl
     refine val_ (v := ?_) (a' := ?_) 17 34 bz11_18 rfl rfl HT_.out (by kernel_rfl) (by rfl) (fun _ _ _ h => h) ?_ ?_ ?_
     rotate_left
     ·intro w'
      go_simp
      with_reducible rfl
     rotate_left
     ·simp only [Act.put, s0_, s1_, s2_, i64_w, i32_w]
      rfl
     refine val_ (v := ?_) (a' := ?_) 18 35 bz11_19 rfl rfl HT_.out (by kernel_rfl) (by rfl) (fun _ _ _ h => h) ?_ ?_ ?_
     rotate_left
     ·intro w'
      go_simp
      with_reducible rfl
     rotate_left
     ·simp only [Act.put, s0_, s1_, s2_, i64_w, i32_w]
      rfl
     refine unds_ [(19, 36), (20, 37), (21, 38), (22, 39), (23, 40), (24, 41), (25, 42), (26, 43), (27, 44), (28, 45), (29, 46), (30, 47), (31, 48), (32, 49), (33, 50)] (a' := ?_) 18 bz11_20 HT_.out (by kernel_rfl) (by kernel_rfl) (fun _ _ _ _ _ h => h) rfl ?_ ?_
     rotate_left
     ·simp only [putU, Act.put, s0_, s1_, s2_, i64_w, i32_w]
      rfl
     refine val_ (v := ?_) (a' := ?_) 34 51 bz11_21 rfl rfl HT_.out (by kernel_rfl) (by rfl) (fun _ _ _ h => h) ?_ ?_ ?_
     rotate_left
     ·intro w'
      go_simp
      with_reducible rfl
     rotate_left
     ·simp only [Act.put, s0_, s1_, s2_, i64_w, i32_w]
      rfl
     refine val_ (v := ?_) (a' := ?_) 35 52 bz11_22 rfl rfl HT_.out (by kernel_rfl) (by rfl) (fun _ _ _ h => h) ?_ ?_ ?_
     rotate_left
     ·intro w'
      go_simp
      with_reducible rfl
     rotate_left
     ·simp only [Act.put, s0_, s1_, s2_, i64_w, i32_w]
      rfl
     refine unds_ [(36, 53), (37, 54), (38, 55), (39, 56), (40, 57), (41, 58), (42, 59), (43, 60), (44, 61), (45, 62), (46, 63), (47, 64), (48, 65), (49, 66), (50, 67)] (a' := ?_) 1 bz11_23 HT_.out (by kernel_rfl) (by kernel_rfl) (fun _ _ _ _ _ h => h) rfl ?_ ?_
     rotate_left
     ·simp only [putU, Act.put, s0_, s1_, s2_, i64_w, i32_w]
      rfl
     refine val_ (v := ?_) (a' := ?_) 51 68 bz11_24 rfl rfl HT_.out (by kernel_rfl) (by rfl) (fun _ _ _ h => h) ?_ ?_ ?_
     rotate_left
     ·intro w'
      go_simp
      with_reducible rfl
     rotate_left
     ·simp only [Act.put, s0_, s1_, s2_, i64_w, i32_w]
      rfl
     refine done_ (done_of HT_.out (by kernel_rfl)) ?_
     try go_wp2
     go_ret
     exact ⟨by first | rfl | (simp [errW_none, errW_some] <;> rfl) | (simp [*, errW_none, errW_some] <;> rfl), by repeat (first | exact HB.out | apply below_alloc | apply pw_below_drewN | apply below_drew1)⟩
    subst c9
    have H1 : (if 0 < ((rd_L5 l1 x12_1).length : Int) then (if 1 < ((rd_L5 l1 x12_1).length : Int) then (if (rd (rd_L5 l1 x12_1) 0) = (rd (rd_L5 l1 x12_1) 1) then (some false) else (if 0 ≤ (rd (rd_L5 l1 x12_1) 0) then (if (rd (rd_L5 l1 x12_1) 0) < (l0.length : Int) then (if 0 ≤ (rd (rd_L5 l1 x12_1) 1) then (if (rd (rd_L5 l1 x12_1) 1) < (l0.length : Int) then (if ((rd_T103 l0 (rd (rd_L5 l1 x12_1) 0)).f2) = ((rd_T103 l0 (rd (rd_L5 l1 x12_1) 1)).f2) then (if x12_1 > 0 then (if 0 ≤ (wrap64 (x12_1 - 1)) then (if (wrap64 (x12_1 - 1)) < (l1.length : Int) then (if 0 < ((rd_L5 l1 (wrap64 (x12_1 - 1))).length : Int) then (if (rd (rd_L5 l1 x12_1) 0) ≤ (rd (rd_L5 l1 (wrap64 (x12_1 - 1))) 0) then (some false) else (impl_pairsOk.l0 k1 l0 l1 l1 (l1.length : Int) (wrap64 (x12_1 + 1)))) else (none)) else (none)) else (none)) else (impl_pairsOk.l0 k1 l0 l1 l1 (l1.length : Int) (wrap64 (x12_1 + 1)))) else (some false)) else (none)) else (none)) else (none)) else (none))) else (none)) else (none)) = some r := by rw [if_pos rfl] at H; exact H
    clear H
    have H := H1
    clear H1
    by_cases c10 : 0 < ((rd_L5 l1 x12_1).length : Int)
    rotate_left
    ·rw [if_neg c10] at H
     exact absurd H (by simp)
    rw [if_pos c10] at H
    have c10b0 : decide (0 < ((rd_L5 l1 x12_1).length : Int)) = true := decide_eq_true c10
    have c10b1 : decide (0 < (rd_L5 l1 x12_1).length) = true := decide_eq_true (by omega)
    clear c10
    by_cases c11 : 1 < ((rd_L5 l1 x12_1).length : Int)
    rotate_left
    ·rw [if_neg c11] at H
     exact absurd H (by simp)
    rw [if_pos c11] at H
    have c11b0 : decide (1 < ((rd_L5 l1 x12_1).length : Int)) = true := decide_eq_true c11
    have c11b1 : decide (1 < (rd_L5 l1 x12_1).length) = true := decide_eq_true (by omega)
    clear c11
    by_cases c12 : (rd (rd_L5 l1 x12_1) 0) = (rd (rd_L5 l1 x12_1) 1)
    rotate_left
    ·rw [if_neg c12] at H
     have c12b0 : ((rd (rd_L5 l1 x12_1) 0) == (rd (rd_L5 l1 x12_1) 1)) = false := beq_eq_false_iff_ne.mpr c12
     have c12b1 : ((rd (rd_L5 l1 x12_1) 0) != (rd (rd_L5 l1 x12_1) 1)) = true := bne_iff_ne.mpr c12
     by_cases c15 : 0 ≤ (rd (rd_L5 l1 x12_1) 0)
     rotate_left
     ·rw [if_neg c15] at H
      exact absurd H (by simp)
     rw [if_pos c15] at H
     have c15b0 : decide (0 ≤ (rd (rd_L5 l1 x12_1) 0)) = true := decide_eq_true c15
     clear c15
     by_cases c16 : (rd (rd_L5 l1 x12_1) 0) < (l0.length : Int)
     rotate_left
     ·rw [if_neg c16] at H
      exact absurd H (by simp)
     rw [if_pos c16] at H
     have c16b0 : decide ((rd (rd_L5 l1 x12_1) 0) < (l0.length : Int)) = true := decide_eq_true c16
     clear c16
     by_cases c17 : 0 ≤ (rd (rd_L5 l1 x12_1) 1)
     rotate_left
     ·rw [if_neg c17] at H
      exact absurd H (by simp)
     rw [if_pos c17] at H
     have c17b0 : decide (0 ≤ (rd (rd_L5 l1 x12_1) 1)) = true := decide_eq_true c17
     clear c17
     by_cases c18 : (rd (rd_L5 l1 x12_1) 1) < (l0.length : Int)
     rotate_left
     ·rw [if_neg c18] at H
      exact absurd H (by simp)
     rw [if_pos c18] at H
     have c18b0 : decide ((rd (rd_L5 l1 x12_1) 1) < (l0.length : Int)) = true := decide_eq_true c18
     clear c18
     by_cases c19 : ((rd_T103 l0 (rd (rd_L5 l1 x12_1) 0)).f2) = ((rd_T103 l0 (rd (rd_L5 l1 x12_1) 1)).f2)
     rotate_left
     ·rw [if_neg c19] at H
      have c19b0 : (((rd_T103 l0 (rd (rd_L5 l1 x12_1) 0)).f2) == ((rd_T103 l0 (rd (rd_L5 l1 x12_1) 1)).f2)) = false := beq_eq_false_iff_ne.mpr c19
      have c19b1 : (((rd_T103 l0 (rd (rd_L5 l1 x12_1) 0)).f2) != ((rd_T103 l0 (rd (rd_L5 l1 x12_1) 1)).f2)) = true := bne_iff_ne.mpr c19
      obtain rfl := Option.some.inj H
      have p214 : 0 ≤ (x12_1 : Int) := of_decide_eq_true (by assumption)
      have q214 : x12_1 < (l1.length : Int) := of_decide_eq_true (by assumption)
      obtain ⟨ad214, A214_0, c214_0, e214, hx214_0, hl214_0, hi214_0⟩ := at_L5 HR1.out x12_1 p214 q214
      cases e214
      replace hx214_0 := (HB.out.cell (World.block_lt_of_cell? w _ hx214_0)).trans hx214_0
      have HR214_0 := Aside0.mk hi214_0
      have HC214_0 := Aside0.mk hl214_0
      clear hi214_0 hl214_0
      replace p214 := eq_true p214
      replace q214 := eq_true q214
      try go_wp2
      have n0_ := Aside0.mk (below_drew1 HB.out)
      clear HB
      have HB := n0_
      clear n0_
      have p216 : 0 ≤ (0 : Int) := (by omega)
      have q216 : 0 < ((rd_L5 l1 x12_1).length : Int) := of_decide_eq_true (by assumption)
      obtain ⟨ad216, e216, hx216_0⟩ := Kd.at_int HR214_0.out 0 p216 q216
      have hw216_0 := hx216_0
      (try rw [show ((0 : Int)).toNat = 0 from rfl] at hw216_0)
      (try rw [show 0 * 1 = 0 from rfl] at hw216_0)
      (try rw [Addr.add_zero'] at hw216_0)
      cases e216
      have qi216 : (0 < (rd_L5 l1 x12_1).length) = True := eq_true (by omega)
      (try rw [show ((0 : Int)).toNat = 0 from rfl] at hx216_0)
      (try rw [Addr.add_zero'] at hx216_0)
      replace hx216_0 := (HB.out.cell (World.block_lt_of_cell? w _ hx216_0)).trans hx216_0
      replace p216 := eq_true p216
      replace q216 := eq_true q216
      have p217 : 0 ≤ (1 : Int) := (by omega)
      have q217 : 1 < ((rd_L5 l1 x12_1).length : Int) := of_decide_eq_true (by assumption)
      obtain ⟨ad217, e217, hx217_0⟩ := Kd.at_int HR214_0.out 1 p217 q217
      have hw217_0 := hx217_0
      (try rw [show ((1 : Int)).toNat = 1 from rfl] at hw217_0)
      (try rw [show 1 * 1 = 1 from rfl] at hw217_0)
      (try simp only [Nat.reduceMul, Nat.reduceEqDiff, Go.Addr.add, ↓reduceIte] at hw217_0)
      obtain rfl : ad216 = ad217 := (by injection e217)
      (try simp only [show (1 : Int).toNat = 1 from rfl, Nat.reduceMul, Nat.reduceEqDiff, Go.Addr.add, ↓reduceIte] at hx217_0)
      have qi217 : (1 < (rd_L5 l1 x12_1).length) = True := eq_true (by omega)
      (try rw [show ((1 : Int)).toNat = 1 from rfl] at hx217_0)
      replace hx217_0 := (HB.out.cell (World.block_lt_of_cell? w _ hx217_0)).trans hx217_0
      replace p217 := eq_true p217
      replace q217 := eq_true q217
      have p218 : 0 ≤ (0 : Int) := (by omega)
      have q218 : 0 < ((rd_L5 l1 x12_1).length : Int) := of_decide_eq_true (by assumption)
      obtain ⟨ad218, e218, hx218_0⟩ := Kd.at_int HR214_0.out 0 p218 q218
      have hw218_0 := hx218_0
      (try rw [show ((0 : Int)).toNat = 0 from rfl] at hw218_0)
      (try rw [show 0 * 1 = 0 from rfl] at hw218_0)
      (try rw [Addr.add_zero'] at hw218_0)
      obtain rfl : ad216 = ad218 := (by injection e218)
      have qi218 : (0 < (rd_L5 l1 x12_1).length) = True := eq_true (by omega)
      (try rw [show ((0 : Int)).toNat = 0 from rfl] at hx218_0)
      (try rw [Addr.add_zero'] at hx218_0)
      replace hx218_0 := (HB.out.cell (World.block_lt_of_cell? w _ hx218_0)).trans hx218_0
      replace p218 := eq_true p218
      replace q218 := eq_true q218
      have p219 : 0 ≤ ((rd (rd_L5 l1 x12_1) 0) : Int) := of_decide_eq_true (by assumption)
      have q219 : (rd (rd_L5 l1 x12_1) 0) < (l0.length : Int) := of_decide_eq_true (by assumption)
      obtain ⟨ad219, e219, hx219_0, hx219_1, hx219_2⟩ := at_T103 HR0.out (rd (rd_L5 l1 x12_1) 0) p219 q219
      have hw219_2 := hx219_2
      have hw219_1 := hx219_1
      have hw219_0 := hx219_0
      cases e219
      replace hx219_0 := (HB.out.cell (World.block_lt_of_cell? w _ hx219_0)).trans hx219_0
      replace hx219_1 := (HB.out.cell (World.block_lt_of_cell? w _ hx219_1)).trans hx219_1
      replace hx219_2 := (HB.out.cell (World.block_lt_of_cell? w _ hx219_2)).trans hx219_2
      replace p219 := eq_true p219
      replace q219 := eq_true q219
      have p220 : 0 ≤ (1 : Int) := (by omega)
      have q220 : 1 < ((rd_L5 l1 x12_1).length : Int) := of_decide_eq_true (by assumption)
      obtain ⟨ad220, e220, hx220_0⟩ := Kd.at_int HR214_0.out 1 p220 q220
      have hw220_0 := hx220_0
      (try rw [show ((1 : Int)).toNat = 1 from rfl] at hw220_0)
      (try rw [show 1 * 1 = 1 from rfl] at hw220_0)
      (try simp only [Nat.reduceMul, Nat.reduceEqDiff, Go.Addr.add, ↓reduceIte] at hw220_0)
      obtain rfl : ad216 = ad220 := (by injection e220)
      (try simp only [show (1 : Int).toNat = 1 from rfl, Nat.reduceMul, Nat.reduceEqDiff, Go.Addr.add, ↓reduceIte] at hx220_0)
      have qi220 : (1 < (rd_L5 l1 x12_1).length) = True := eq_true (by omega)
      (try rw [show ((1 : Int)).toNat = 1 from rfl] at hx220_0)
      replace hx220_0 := (HB.out.cell (World.block_lt_of_cell? w _ hx220_0)).trans hx220_0
      replace p220 := eq_true p220
      replace q220 := eq_true q220
      have p221 : 0 ≤ ((rd (rd_L5 l1 x12_1) 1) : Int) := of_decide_eq_true (by assumption)
      have q221 : (rd (rd_L5 l1 x12_1) 1) < (l0.length : Int) := of_decide_eq_true (by assumption)
      obtain ⟨ad221, e221, hx221_0, hx221_1, hx221_2⟩ := at_T103 HR0.out (rd (rd_L5 l1 x12_1) 1) p221 q221
      have hw221_2 := hx221_2
      have hw221_1 := hx221_1
      have hw221_0 := hx221_0
      obtain rfl : ad219 = ad221 := (by injection e221)
      replace hx221_0 := (HB.out.cell (World.block_lt_of_cell? w _ hx221_0)).trans hx221_0
      replace hx221_1 := (HB.out.cell (World.block_lt_of_cell? w _ hx221_1)).trans hx221_1
      replace hx221_2 := (HB.out.cell (World.block_lt_of_cell? w _ hx221_2)).trans hx221_2
      replace p221 := eq_true p221
      replace q221 := eq_true q221
      refine start_ (n := 52) (S := fun w' => w'.cell? ad216 = some (.int .i64 (rd (rd_L5 l1 x12_1) 0)) ∧ w'.cell? ⟨ad216.block, ad216.off + 1, none⟩ = some (.int .i64 (rd (rd_L5 l1 x12_1) 1)) ∧ w'.cell? ad216 = some (.int .i64 (rd (rd_L5 l1 x12_1) 0)) ∧ w'.cell? (ad219.add (((rd (rd_L5 l1 x12_1) 0)).toNat * 3)) = some (.string ((rd_T103 l0 (rd (rd_L5 l1 x12_1) 0)).f0)) ∧ w'.cell? ⟨(ad219.add (((rd (rd_L5 l1 x12_1) 0)).toNat * 3)).block, (ad219.add (((rd (rd_L5 l1 x12_1) 0)).toNat * 3)).off + 1, none⟩ = some (.int .i64 ((rd_T103 l0 (rd (rd_L5 l1 x12_1) 0)).f1)) ∧ w'.cell? ⟨(ad219.add (((rd (rd_L5 l1 x12_1) 0)).toNat * 3)).block, (ad219.add (((rd (rd_L5 l1 x12_1) 0)).toNat * 3)).off + 2, none⟩ = some (.int .i64 ((rd_T103 l0 (rd (rd_L5 l1 x12_1) 0)).f2)) ∧ w'.cell? ⟨ad216.block, ad216.off + 1, none⟩ = some (.int .i64 (rd (rd_L5 l1 x12_1) 1)) ∧ w'.cell? (ad219.add (((rd (rd_L5 l1 x12_1) 1)).toNat * 3)) = some (.string ((rd_T103 l0 (rd (rd_L5 l1 x12_1) 1)).f0)) ∧ w'.cell? ⟨(ad219.add (((rd (rd_L5 l1 x12_1) 1)).toNat * 3)).block, (ad219.add (((rd (rd_L5 l1 x12_1) 1)).toNat * 3)).off + 1, none⟩ = some (.int .i64 ((rd_T103 l0 (rd (rd_L5 l1 x12_1) 1)).f1)) ∧ w'.cell? ⟨(ad219.add (((rd (rd_L5 l1 x12_1) 1)).toNat * 3)).block, (ad219.add (((rd (rd_L5 l1 x12_1) 1)).toNat * 3)).off + 2, none⟩ = some (.int .i64 ((rd_T103 l0 (rd (rd_L5 l1 x12_1) 1)).f2))) (ds := []) bz11_0 (by kernel_rfl) rfl rfl ⟨((HB.out.cell (World.block_lt_of_cell? w _ hw216_0)).trans hw216_0), ((HB.out.cell (World.block_lt_of_cell? w _ hw217_0)).trans hw217_0), ((HB.out.cell (World.block_lt_of_cell? w _ hw218_0)).trans hw218_0), ((HB.out.cell (World.block_lt_of_cell? w _ hw219_0)).trans hw219_0), ((HB.out.cell (World.block_lt_of_cell? w _ hw219_1)).trans hw219_1), ((HB.out.cell (World.block_lt_of_cell? w _ hw219_2)).trans hw219_2), ((HB.out.cell (World.block_lt_of_cell? w _ hw220_0)).trans hw220_0), ((HB.out.cell (World.block_lt_of_cell? w _ hw221_0)).trans hw221_0), ((HB.out.cell (World.block_lt_of_cell? w _ hw221_1)).trans hw221_1), ((HB.out.cell (World.block_lt_of_cell? w _ hw221_2)).trans hw221_2)⟩ (fun hHeld => ?_); refine with_tabW impl_pairsOk.tab6 impl_pairsOk.bits6 (fun HT_ HW_ => ?_)
      generalize wr.drew = w32 at HB hx216_0 hx217_0 hx218_0 hx219_0 hx219_1 hx219_2 hx220_0 hx221_0 hx221_1 hx221_2 hHeld ⊢
      refine val_ (v := ?_) (a' := ?_) 0 17 bz11_1 rfl rfl HT_.out (by kernel_rfl) (by rfl) (fun _ _ _ h => h) ?_ ?_ ?_
      rotate_left
      ·intro w'
       go_simp
       with_reducible rfl
      rotate_left
      ·simp only [Act.put, s0_, s1_, s2_, i64_w, i32_w]
       rfl
      refine val_ (v := ?_) (a' := ?_) 1 18 bz11_2 rfl rfl HT_.out (by kernel_rfl) (by rfl) (fun _ _ _ h => h) ?_ ?_ ?_
      rotate_left
      ·intro w'
       go_simp
       with_reducible rfl
      rotate_left
      ·simp only [Act.put, s0_, s1_, s2_, i64_w, i32_w]
       rfl
      refine val_ (v := ?_) (a' := ?_) 2 19 bz11_3 rfl rfl HT_.out (by kernel_rfl) (by rfl) (fun _ _ _ h => h) ?_ ?_ ?_
      rotate_left
      ·intro w'
       go_simp
       with_reducible rfl
      rotate_left
      ·simp only [Act.put, s0_, s1_, s2_, i64_w, i32_w]
       rfl
      refine val_ (v := ?_) (a' := ?_) 3 20 bz11_4 rfl rfl HT_.out (by kernel_rfl) (by rfl) (fun _ _ _ h => h) ?_ ?_ ?_
      rotate_left
      ·intro w'
       go_simp
       with_reducible rfl
      rotate_left
      ·simp only [Act.put, s0_, s1_, s2_, i64_w, i32_w]
       rfl
      refine val_ (v := ?_) (a' := ?_) 4 21 bz11_5 rfl rfl HT_.out (by kernel_rfl) (by rfl) (fun _ _ _ h => h) ?_ ?_ ?_
      rotate_left
      ·intro w'
       go_simp
       with_reducible rfl
      rotate_left
      ·simp only [Act.put, s0_, s1_, s2_, i64_w, i32_w]
       rfl
      refine val_ (v := ?_) (a' := ?_) 5 22 bz11_6 rfl rfl HT_.out (by kernel_rfl) (by rfl) (fun _ _ _ h => h) ?_ ?_ ?_
      rotate_left
      ·intro w'
       go_simp
       with_reducible rfl
      rotate_left
      ·simp only [Act.put, s0_, s1_, s2_, i64_w, i32_w]
       rfl
      refine one_ (i := 6) (N := some 23) bz11_7 rfl rfl (one_of HT_.out (by kernel_rfl)) (by decide) (fun K hK => ?_)
      refine goes_ Try.func172 (by kernel_rfl) rfl #[.slice (some ad219) l0.length c0, .slice (some ad216) (rd_L5 l1 x12_1).length c214_0] (by rfl) rfl rfl (by (try simp only [List.map_toArray, List.map_cons, List.map_nil]); first | done | rfl) ?_
      with_reducible refine (impl_composedOk.calls _ _ l0 _ _ (rd_L5 l1 x12_1) true _ ?side1 ?side2 ?side3 ?side4 A8.out).mono ?_
      (case side1 => exact (Kd.C_below HR0.out HB.out))
      (case side2 => exact HC0.out)
      (case side3 => exact (Kd.C_below HR214_0.out HB.out))
      (case side4 => exact HC214_0.out)
      rintro e w33 ⟨rfl, hb⟩
      refine ⟨_, rfl, ?_⟩
      have n0_ := Aside0.mk (below_step (by repeat (first | exact HB.out | apply below_alloc | apply pw_below_drewN | apply below_drew1)) hb)
      clear HB
      have HB := n0_
      clear n0_
      (try clear hb)
      (try clear hb2)
      (try clear hk)
      (try clear hi)
      refine hK.out _ _ ⟨((HB.out.cell (World.block_lt_of_cell? w _ hw216_0)).trans hw216_0), ((HB.out.cell (World.block_lt_of_cell? w _ hw217_0)).trans hw217_0), ((HB.out.cell (World.block_lt_of_cell? w _ hw218_0)).trans hw218_0), ((HB.out.cell (World.block_lt_of_cell? w _ hw219_0)).trans hw219_0), ((HB.out.cell (World.block_lt_of_cell? w _ hw219_1)).trans hw219_1), ((HB.out.cell (World.block_lt_of_cell? w _ hw219_2)).trans hw219_2), ((HB.out.cell (World.block_lt_of_cell? w _ hw220_0)).trans hw220_0), ((HB.out.cell (World.block_lt_of_cell? w _ hw221_0)).trans hw221_0), ((HB.out.cell (World.block_lt_of_cell? w _ hw221_1)).trans hw221_1), ((HB.out.cell (World.block_lt_of_cell? w _ hw221_2)).trans hw221_2)⟩ (fun hHeld => ?_)
      clear hK K
      refine norm_ (a' := ?_) ?_ ?_
      rotate_left
      ·show Act.put _ (some 23) _ = _
       simp only [Act.put, s0_, s1_, s2_, i64_w, i32_w]
       rfl
      refine val_ (v := ?_) (a' := ?_) 7 24 bz11_8 rfl rfl HT_.out (by kernel_rfl) (by rfl) (fun _ _ _ h => h) ?_ ?_ ?_
      rotate_left
      ·intro w'
       go_simp
       with_reducible rfl
      rotate_left
      ·simp only [Act.put, s0_, s1_, s2_, i64_w, i32_w]
       rfl
      refine val_ (v := ?_) (a' := ?_) 8 25 bz11_9 rfl rfl HT_.out (by kernel_rfl) (by rfl) (fun _ _ _ h => h) ?_ ?_ ?_
      rotate_left
      ·intro w'
       go_simp
       with_reducible rfl
      rotate_left
      ·simp only [Act.put, s0_, s1_, s2_, i64_w, i32_w]
       rfl
      refine val_ (v := ?_) (a' := ?_) 9 26 bz11_10 rfl rfl HT_.out (by kernel_rfl) (by rfl) (fun _ _ _ h => h) ?_ ?_ ?_
      rotate_left
      ·intro w'
       go_simp
       with_reducible rfl
      rotate_left
      ·simp only [Act.put, s0_, s1_, s2_, i64_w, i32_w]
       rfl
      refine val_ (v := ?_) (a' := ?_) 10 27 bz11_11 rfl rfl HT_.out (by kernel_rfl) (by rfl) (fun _ _ _ h => h) ?_ ?_ ?_
      rotate_left
      ·intro w'
       go_simp
       with_reducible rfl
      rotate_left
      ·simp only [Act.put, s0_, s1_, s2_, i64_w, i32_w]
       rfl
      refine val_ (v := ?_) (a' := ?_) 11 28 bz11_12 rfl rfl HT_.out (by kernel_rfl) (by rfl) (fun _ _ _ h => h) ?_ ?_ ?_
      rotate_left
      ·intro w'
       go_simp
       with_reducible rfl
      rotate_left
      ·simp only [Act.put, s0_, s1_, s2_, i64_w, i32_w]
       rfl
      refine val_ (v := ?_) (a' := ?_) 13 30 bz11_13 rfl rfl HT_.out (by kernel_rfl) (by rfl) (fun _ _ _ h => h) ?_ ?_ ?_
      rotate_left
      ·intro w'
       go_simp
       with_reducible rfl
      rotate_left
      ·simp only [Act.put, s0_, s1_, s2_, i64_w, i32_w]
       rfl
      refine val_ (v := ?_) (a' := ?_) 14 31 bz11_14 rfl rfl HT_.out (by kernel_rfl) (by rfl) (fun _ _ _ h => h) ?_ ?_ ?_
      rotate_left
      ·intro w'
       go_simp
       with_reducible rfl
      rotate_left
      ·simp only [Act.put, s0_, s1_, s2_, i64_w, i32_w]
       rfl
      refine take_ (i := 12) (N := some 29) (v := ?_) (a' := ?_) bz11_15 rfl rfl (take_ofW HT_.out HW_.out (by kernel_rfl)) (fun _ _ _ h => h) (Or.inl ⟨by rfl, ?_⟩) hHeld ?_ ?_
      rotate_left
      ·rintro w' ⟨s0, s1, s2, s3, s4, s5, s6, s7, s8, s9⟩
       go_simp
       with_reducible rfl
      rotate_left
      ·simp only [Act.put, s0_, s1_, s2_, i64_w, i32_w]
       rfl
      refine take_ (i := 15) (N := some 32) (v := ?_) (a' := ?_) bz11_16 rfl rfl (take_ofW HT_.out HW_.out (by kernel_rfl)) (fun _ _ _ h => h) (Or.inl ⟨by rfl, ?_⟩) hHeld ?_ ?_
      rotate_left
      ·rintro w' ⟨s0, s1, s2, s3, s4, s5, s6, s7, s8, s9⟩
       go_simp
       with_reducible rfl
      rotate_left
      ·simp only [Act.put, s0_, s1_, s2_, i64_w, i32_w]
       rfl
      refine val_ (v := ?_) (a' := ?_) 16 33 bz11_17 rfl rfl HT_.out (by kernel_rfl) (by rfl) (fun _ _ _ h => h) ?_ ?_ ?_
      rotate_left
      ·intro w'
       go_simp
       with_reducible rfl
      rotate_left
      ·simp only [Act.put, s0_, s1_, s2_, i64_w, i32_w]
       rfl
      refine val_ (v := ?_) (a' := ?_) 17 34 bz11_18 rfl rfl HT_.out (by kernel_rfl) (by rfl) (fun _ _ _ h => h) ?_ ?_ ?_
      rotate_left
      ·intro w'
       go_simp
       with_reducible rfl
      rotate_left
      ·simp only [Act.put, s0_, s1_, s2_, i64_w, i32_w]
       rfl
      refine val_ (v := ?_) (a' := ?_) 18 35 bz11_19 rfl rfl HT_.out (by kernel_rfl) (by rfl) (fun _ _ _ h => h) ?_ ?_ ?_
      rotate_left
      ·intro w'
       go_simp
       with_reducible rfl
      rotate_left
      ·simp only [Act.put, s0_, s1_, s2_, i64_w, i32_w]
       rfl
      refine val_ (v := ?_) (a' := ?_) 19 36 bz11_25 rfl rfl HT_.out (by kernel_rfl) (by rfl) (fun _ _ _ h => h) ?_ ?_ ?_
      rotate_left
      ·intro w'
       go_simp
       with_reducible rfl
      rotate_left
      ·simp only [Act.put, s0_, s1_, s2_, i64_w, i32_w]
       rfl
      refine val_ (v := ?_) (a' := ?_) 20 37 bz11_26 rfl rfl HT_.out (by kernel_rfl) (by rfl) (fun _ _ _ h => h) ?_ ?_ ?_
      rotate_left
      ·intro w'
       go_simp
       with_reducible rfl
      rotate_left
      ·simp only [Act.put, s0_, s1_, s2_, i64_w, i32_w]
       rfl
      refine val_ (v := ?_) (a' := ?_) 21 38 bz11_27 rfl rfl HT_.out (by kernel_rfl) (by rfl) (fun _ _ _ h => h) ?_ ?_ ?_
      rotate_left
      ·intro w'
       go_simp
       with_reducible rfl
      rotate_left
      ·simp only [Act.put, s0_, s1_, s2_, i64_w, i32_w]
       rfl
      refine val_ (v := ?_) (a' := ?_) 26 43 bz11_28 rfl rfl HT_.out (by kernel_rfl) (by rfl) (fun _ _ _ h => h) ?_ ?_ ?_
      rotate_left
      ·intro w'
       go_simp
       with_reducible rfl
      rotate_left
      ·simp only [Act.put, s0_, s1_, s2_, i64_w, i32_w]
       rfl
      refine val_ (v := ?_) (a' := ?_) 27 44 bz11_29 rfl rfl HT_.out (by kernel_rfl) (by rfl) (fun _ _ _ h => h) ?_ ?_ ?_
      rotate_left
      ·intro w'
       go_simp
       with_reducible rfl
      rotate_left
      ·simp only [Act.put, s0_, s1_, s2_, i64_w, i32_w]
       rfl
      refine val_ (v := ?_) (a' := ?_) 28 45 bz11_30 rfl rfl HT_.out (by kernel_rfl) (by rfl) (fun _ _ _ h => h) ?_ ?_ ?_
      rotate_left
      ·intro w'
       go_simp
       with_reducible rfl
      rotate_left
      ·simp only [Act.put, s0_, s1_, s2_, i64_w, i32_w]
       rfl
      refine take_ (i := 22) (N := some 39) (v := ?_) (a' := ?_) bz11_31 rfl rfl (take_ofW HT_.out HW_.out (by kernel_rfl)) (fun _ _ _ h => h) (Or.inl ⟨by rfl, ?_⟩) hHeld ?_ ?_
      rotate_left
      ·rintro w' ⟨s0, s1, s2, s3, s4, s5, s6, s7, s8, s9⟩
       go_simp
       with_reducible rfl
      rotate_left
      ·simp only [Act.put, s0_, s1_, s2_, i64_w, i32_w]
       rfl
      refine val_ (v := ?_) (a' := ?_) 23 40 bz11_32 rfl rfl HT_.out (by kernel_rfl) (by rfl) (fun _ _ _ h => h) ?_ ?_ ?_
      rotate_left
      ·intro w'
       go_simp
       with_reducible rfl
      rotate_left
      ·simp only [Act.put, s0_, s1_, s2_, i64_w, i32_w]
       rfl
      refine val_ (v := ?_) (a' := ?_) 24 41 bz11_33 rfl rfl HT_.out (by kernel_rfl) (by rfl) (fun _ _ _ h => h) ?_ ?_ ?_
      rotate_left
      ·intro w'
       go_simp
       with_reducible rfl
      rotate_left
      ·simp only [Act.put, s0_, s1_, s2_, i64_w, i32_w]
       rfl
      refine take_ (i := 25) (N := some 42) (v := ?_) (a' := ?_) bz11_34 rfl rfl (take_ofW HT_.out HW_.out (by kernel_rfl)) (fun _ _ _ h => h) (Or.inl ⟨by rfl, ?_⟩) hHeld ?_ ?_
      rotate_left
      ·rintro w' ⟨s0, s1, s2, s3, s4, s5, s6, s7, s8, s9⟩
       go_simp
       with_reducible rfl
      rotate_left
      ·simp only [Act.put, s0_, s1_, s2_, i64_w, i32_w]
       rfl
      refine take_ (i := 29) (N := some 46) (v := ?_) (a' := ?_) bz11_35 rfl rfl (take_ofW HT_.out HW_.out (by kernel_rfl)) (fun _ _ _ h => h) (Or.inl ⟨by rfl, ?_⟩) hHeld ?_ ?_
      rotate_left
      ·rintro w' ⟨s0, s1, s2, s3, s4, s5, s6, s7, s8, s9⟩
       go_simp
       with_reducible rfl
      rotate_left
      ·simp only [Act.put, s0_, s1_, s2_, i64_w, i32_w]
       rfl
      refine val_ (v := ?_) (a' := ?_) 30 47 bz11_36 rfl rfl HT_.out (by kernel_rfl) (by rfl) (fun _ _ _ h => h) ?_ ?_ ?_
      rotate_left
      ·intro w'
       go_simp
       with_reducible rfl
      rotate_left
      ·simp only [Act.put, s0_, s1_, s2_, i64_w, i32_w]
       rfl
      refine val_ (v := ?_) (a' := ?_) 31 48 bz11_37 rfl rfl HT_.out (by kernel_rfl) (by rfl) (fun _ _ _ h => h) ?_ ?_ ?_
      rotate_left
      ·intro w'
       go_simp
       with_reducible rfl
      rotate_left
      ·simp only [Act.put, s0_, s1_, s2_, i64_w, i32_w]
       rfl
      refine take_ (i := 32) (N := some 49) (v := ?_) (a' := ?_) bz11_38 rfl rfl (take_ofW HT_.out HW_.out (by kernel_rfl)) (fun _ _ _ h => h) (Or.inl ⟨by rfl, ?_⟩) hHeld ?_ ?_
      rotate_left
      ·rintro w' ⟨s0, s1, s2, s3, s4, s5, s6, s7, s8, s9⟩
       go_simp
       with_reducible rfl
      rotate_left
      ·simp only [Act.put, s0_, s1_, s2_, i64_w, i32_w]
       rfl
      refine val_ (v := ?_) (a' := ?_) 33 50 bz11_20 rfl rfl HT_.out (by kernel_rfl) (by rfl) (fun _ _ _ h => h) ?_ ?_ ?_
      rotate_left
      ·intro w'
       go_simp
       with_reducible rfl
      rotate_left
      ·simp only [Act.put, s0_, s1_, s2_, i64_w, i32_w]
       rfl
      refine val_ (v := ?_) (a' := ?_) 34 51 bz11_21 rfl rfl HT_.out (by kernel_rfl) (by rfl) (fun _ _ _ h => h) ?_ ?_ ?_
      rotate_left
      ·intro w'
       go_simp
       with_reducible rfl
      rotate_left
      ·simp only [Act.put, s0_, s1_, s2_, i64_w, i32_w]
       rfl
      refine val_ (v := ?_) (a' := ?_) 35 52 bz11_22 rfl rfl HT_.out (by kernel_rfl) (by rfl) (fun _ _ _ h => h) ?_ ?_ ?_
      rotate_left
      ·intro w'
       go_simp
       with_reducible rfl
      rotate_left
      ·simp only [Act.put, s0_, s1_, s2_, i64_w, i32_w]
       rfl
      refine unds_ [(36, 53), (37, 54), (38, 55), (39, 56), (40, 57), (41, 58), (42, 59), (43, 60), (44, 61), (45, 62), (46, 63), (47, 64), (48, 65), (49, 66), (50, 67)] (a' := ?_) 1 bz11_23 HT_.out (by kernel_rfl) (by kernel_rfl) (fun _ _ _ _ _ h => h) rfl ?_ ?_
      rotate_left
      ·simp only [putU, Act.put, s0_, s1_, s2_, i64_w, i32_w]
       rfl
      refine val_ (v := ?_) (a' := ?_) 51 68 bz11_24 rfl rfl HT_.out (by kernel_rfl) (by rfl) (fun _ _ _ h => h) ?_ ?_ ?_
      rotate_left
      ·intro w'
       go_simp
       with_reducible rfl
      rotate_left
      ·simp only [Act.put, s0_, s1_, s2_, i64_w, i32_w]
       rfl
      refine done_ (done_of HT_.out (by kernel_rfl)) ?_
      try go_wp2
      go_ret
      exact ⟨by first | rfl | (simp [errW_none, errW_some] <;> rfl) | (simp [*, errW_none, errW_some] <;> rfl), by repeat (first | exact HB.out | apply below_alloc | apply pw_below_drewN | apply below_drew1)⟩
     rw [if_pos c19] at H
     have c19b0 : (((rd_T103 l0 (rd (rd_L5 l1 x12_1) 0)).f2) == ((rd_T103 l0 (rd (rd_L5 l1 x12_1) 1)).f2)) = true := beq_iff_eq.mpr c19
     have c19b1 : (((rd_T103 l0 (rd (rd_L5 l1 x12_1) 0)).f2) != ((rd_T103 l0 (rd (rd_L5 l1 x12_1) 1)).f2)) = false := bne_eq_false_iff_eq.mpr c19
     clear c19
     by_cases c20 : x12_1 > 0
     rotate_left
     ·rw [if_neg c20] at H
      have c20b0 : decide (0 < x12_1) = false := decide_eq_false c20
      clear c20
      have H' := Aside0.mk H
      clear H
      have p214 : 0 ≤ (x12_1 : Int) := of_decide_eq_true (by assumption)
      have q214 : x12_1 < (l1.length : Int) := of_decide_eq_true (by assumption)
      obtain ⟨ad214, A214_0, c214_0, e214, hx214_0, hl214_0, hi214_0⟩ := at_L5 HR1.out x12_1 p214 q214
      cases e214
      replace hx214_0 := (HB.out.cell (World.block_lt_of_cell? w _ hx214_0)).trans hx214_0
      have HR214_0 := Aside0.mk hi214_0
      have HC214_0 := Aside0.mk hl214_0
      clear hi214_0 hl214_0
      replace p214 := eq_true p214
      replace q214 := eq_true q214
      try go_wp2
      have n0_ := Aside0.mk (below_drew1 HB.out)
      clear HB
      have HB := n0_
      clear n0_
      have p216 : 0 ≤ (0 : Int) := (by omega)
      have q216 : 0 < ((rd_L5 l1 x12_1).length : Int) := of_decide_eq_true (by assumption)
      obtain ⟨ad216, e216, hx216_0⟩ := Kd.at_int HR214_0.out 0 p216 q216
      have hw216_0 := hx216_0
      (try rw [show ((0 : Int)).toNat = 0 from rfl] at hw216_0)
      (try rw [show 0 * 1 = 0 from rfl] at hw216_0)
      (try rw [Addr.add_zero'] at hw216_0)
      cases e216
      have qi216 : (0 < (rd_L5 l1 x12_1).length) = True := eq_true (by omega)
      (try rw [show ((0 : Int)).toNat = 0 from rfl] at hx216_0)
      (try rw [Addr.add_zero'] at hx216_0)
      replace hx216_0 := (HB.out.cell (World.block_lt_of_cell? w _ hx216_0)).trans hx216_0
      replace p216 := eq_true p216
      replace q216 := eq_true q216
      have p217 : 0 ≤ (1 : Int) := (by omega)
      have q217 : 1 < ((rd_L5 l1 x12_1).length : Int) := of_decide_eq_true (by assumption)
      obtain ⟨ad217, e217, hx217_0⟩ := Kd.at_int HR214_0.out 1 p217 q217
      have hw217_0 := hx217_0
      (try rw [show ((1 : Int)).toNat = 1 from rfl] at hw217_0)
      (try rw [show 1 * 1 = 1 from rfl] at hw217_0)
      (try simp only [Nat.reduceMul, Nat.reduceEqDiff, Go.Addr.add, ↓reduceIte] at hw217_0)
      obtain rfl : ad216 = ad217 := (by injection e217)
      (try simp only [show (1 : Int).toNat = 1 from rfl, Nat.reduceMul, Nat.reduceEqDiff, Go.Addr.add, ↓reduceIte] at hx217_0)
      have qi217 : (1 < (rd_L5 l1 x12_1).length) = True := eq_true (by omega)
      (try rw [show ((1 : Int)).toNat = 1 from rfl] at hx217_0)
      replace hx217_0 := (HB.out.cell (World.block_lt_of_cell? w _ hx217_0)).trans hx217_0
      replace p217 := eq_true p217
      replace q217 := eq_true q217
      have p218 : 0 ≤ (0 : Int) := (by omega)
      have q218 : 0 < ((rd_L5 l1 x12_1).length : Int) := of_decide_eq_true (by assumption)
      obtain ⟨ad218, e218, hx218_0⟩ := Kd.at_int HR214_0.out 0 p218 q218
      have hw218_0 := hx218_0
      (try rw [show ((0 : Int)).toNat = 0 from rfl] at hw218_0)
      (try rw [show 0 * 1 = 0 from rfl] at hw218_0)
      (try rw [Addr.add_zero'] at hw218_0)
      obtain rfl : ad216 = ad218 := (by injection e218)
      have qi218 : (0 < (rd_L5 l1 x12_1).length) = True := eq_true (by omega)
      (try rw [show ((0 : Int)).toNat = 0 from rfl] at hx218_0)
      (try rw [Addr.add_zero'] at hx218_0)
      replace hx218_0 := (HB.out.cell (World.block_lt_of_cell? w _ hx218_0)).trans hx218_0
      replace p218 := eq_true p218
      replace q218 := eq_true q218
      have p219 : 0 ≤ ((rd (rd_L5 l1 x12_1) 0) : Int) := of_decide_eq_true (by assumption)
      have q219 : (rd (rd_L5 l1 x12_1) 0) < (l0.length : Int) := of_decide_eq_true (by assumption)
      obtain ⟨ad219, e219, hx219_0, hx219_1, hx219_2⟩ := at_T103 HR0.out (rd (rd_L5 l1 x12_1) 0) p219 q219
      have hw219_2 := hx219_2
      have hw219_1 := hx219_1
      have hw219_0 := hx219_0
      cases e219
      replace hx219_0 := (HB.out.cell (World.block_lt_of_cell? w _ hx219_0)).trans hx219_0
      replace hx219_1 := (HB.out.cell (World.block_lt_of_cell? w _ hx219_1)).trans hx219_1
      replace hx219_2 := (HB.out.cell (World.block_lt_of_cell? w _ hx219_2)).trans hx219_2
      replace p219 := eq_true p219
      replace q219 := eq_true q219
      have p220 : 0 ≤ (1 : Int) := (by omega)
      have q220 : 1 < ((rd_L5 l1 x12_1).length : Int) := of_decide_eq_true (by assumption)
      obtain ⟨ad220, e220, hx220_0⟩ := Kd.at_int HR214_0.out 1 p220 q220
      have hw220_0 := hx220_0
      (try rw [show ((1 : Int)).toNat = 1 from rfl] at hw220_0)
      (try rw [show 1 * 1 = 1 from rfl] at hw220_0)
      (try simp only [Nat.reduceMul, Nat.reduceEqDiff, Go.Addr.add, ↓reduceIte] at hw220_0)
      obtain rfl : ad216 = ad220 := (by injection e220)
      (try simp only [show (1 : Int).toNat = 1 from rfl, Nat.reduceMul, Nat.reduceEqDiff, Go.Addr.add, ↓reduceIte] at hx220_0)
      have qi220 : (1 < (rd_L5 l1 x12_1).length) = True := eq_true (by omega)
      (try rw [show ((1 : Int)).toNat = 1 from rfl] at hx220_0)
      replace hx220_0 := (HB.out.cell (World.block_lt_of_cell? w _ hx220_0)).trans hx220_0
      replace p220 := eq_true p220
      replace q220 := eq_true q220
      have p221 : 0 ≤ ((rd (rd_L5 l1 x12_1) 1) : Int) := of_decide_eq_true (by assumption)
      have q221 : (rd (rd_L5 l1 x12_1) 1) < (l0.length : Int) := of_decide_eq_true (by assumption)
      obtain ⟨ad221, e221, hx221_0, hx221_1, hx221_2⟩ := at_T103 HR0.out (rd (rd_L5 l1 x12_1) 1) p221 q221
      have hw221_2 := hx221_2
      have hw221_1 := hx221_1
      have hw221_0 := hx221_0
      obtain rfl : ad219 = ad221 := (by injection e221)
      replace hx221_0 := (HB.out.cell (World.block_lt_of_cell? w _ hx221_0)).trans hx221_0
      replace hx221_1 := (HB.out.cell (World.block_lt_of_cell? w _ hx221_1)).trans hx221_1
      replace hx221_2 := (HB.out.cell (World.block_lt_of_cell? w _ hx221_2)).trans hx221_2
      replace p221 := eq_true p221
      replace q221 := eq_true q221
      refine start_ (n := 52) (S := fun w' => w'.cell? ad216 = some (.int .i64 (rd (rd_L5 l1 x12_1) 0)) ∧ w'.cell? ⟨ad216.block, ad216.off + 1, none⟩ = some (.int .i64 (rd (rd_L5 l1 x12_1) 1)) ∧ w'.cell? ad216 = some (.int .i64 (rd (rd_L5 l1 x12_1) 0)) ∧ w'.cell? (ad219.add (((rd (rd_L5 l1 x12_1) 0)).toNat * 3)) = some (.string ((rd_T103 l0 (rd (rd_L5 l1 x12_1) 0)).f0)) ∧ w'.cell? ⟨(ad219.add (((rd (rd_L5 l1 x12_1) 0)).toNat * 3)).block, (ad219.add (((rd (rd_L5 l1 x12_1) 0)).toNat * 3)).off + 1, none⟩ = some (.int .i64 ((rd_T103 l0 (rd (rd_L5 l1 x12_1) 0)).f1)) ∧ w'.cell? ⟨(ad219.add (((rd (rd_L5 l1 x12_1) 0)).toNat * 3)).block, (ad219.add (((rd (rd_L5 l1 x12_1) 0)).toNat * 3)).off + 2, none⟩ = some (.int .i64 ((rd_T103 l0 (rd (rd_L5 l1 x12_1) 0)).f2)) ∧ w'.cell? ⟨ad216.block, ad216.off + 1, none⟩ = some (.int .i64 (rd (rd_L5 l1 x12_1) 1)) ∧ w'.cell? (ad219.add (((rd (rd_L5 l1 x12_1) 1)).toNat * 3)) = some (.string ((rd_T103 l0 (rd (rd_L5 l1 x12_1) 1)).f0)) ∧ w'.cell? ⟨(ad219.add (((rd (rd_L5 l1 x12_1) 1)).toNat * 3)).block, (ad219.add (((rd (rd_L5 l1 x12_1) 1)).toNat * 3)).off + 1, none⟩ = some (.int .i64 ((rd_T103 l0 (rd (rd_L5 l1 x12_1) 1)).f1)) ∧ w'.cell? ⟨(ad219.add (((rd (rd_L5 l1 x12_1) 1)).toNat * 3)).block, (ad219.add (((rd (rd_L5 l1 x12_1) 1)).toNat * 3)).off + 2, none⟩ = some (.int .i64 ((rd_T103 l0 (rd (rd_L5 l1 x12_1) 1)).f2))) (ds := []) bz11_0 (by kernel_rfl) rfl rfl ⟨((HB.out.cell (World.block_lt_of_cell? w _ hw216_0)).trans hw216_0), ((HB.out.cell (World.block_lt_of_cell? w _ hw217_0)).trans hw217_0), ((HB.out.cell (World.block_lt_of_cell? w _ hw218_0)).trans hw218_0), ((HB.out.cell (World.block_lt_of_cell? w _ hw219_0)).trans hw219_0), ((HB.out.cell (World.block_lt_of_cell? w _ hw219_1)).trans hw219_1), ((HB.out.cell (World.block_lt_of_cell? w _ hw219_2)).trans hw219_2), ((HB.out.cell (World.block_lt_of_cell? w _ hw220_0)).trans hw220_0), ((HB.out.cell (World.block_lt_of_cell? w _ hw221_0)).trans hw221_0), ((HB.out.cell (World.block_lt_of_cell? w _ hw221_1)).trans hw221_1), ((HB.out.cell (World.block_lt_of_cell? w _ hw221_2)).trans hw221_2)⟩ (fun hHeld => ?_); refine with_tabW impl_pairsOk.tab6 impl_pairsOk.bits6 (fun HT_ HW_ => ?_)
      generalize wr.drew = w30 at HB hx216_0 hx217_0 hx218_0 hx219_0 hx219_1 hx219_2 hx220_0 hx221_0 hx221_1 hx221_2 hHeld ⊢
      refine val_ (v := ?_) (a' := ?_) 0 17 bz11_1 rfl rfl HT_.out (by kernel_rfl) (by rfl) (fun _ _ _ h => h) ?_ ?_ ?_
      rotate_left
      ·intro w'
       go_simp
       with_reducible rfl
      rotate_left
      ·simp only [Act.put, s0_, s1_, s2_, i64_w, i32_w]
       rfl
      refine val_ (v := ?_) (a' := ?_) 1 18 bz11_2 rfl rfl HT_.out (by kernel_rfl) (by rfl) (fun _ _ _ h => h) ?_ ?_ ?_
      rotate_left
      ·intro w'
       go_simp
       with_reducible rfl
      rotate_left
      ·simp only [Act.put, s0_, s1_, s2_, i64_w, i32_w]
       rfl
      refine val_ (v := ?_) (a' := ?_) 2 19 bz11_3 rfl rfl HT_.out (by kernel_rfl) (by rfl) (fun _ _ _ h => h) ?_ ?_ ?_
      rotate_left
      ·intro w'
       go_simp
       with_reducible rfl
      rotate_left
      ·simp only [Act.put, s0_, s1_, s2_, i64_w, i32_w]
       rfl
      refine val_ (v := ?_) (a' := ?_) 3 20 bz11_4 rfl rfl HT_.out (by kernel_rfl) (by rfl) (fun _ _ _ h => h) ?_ ?_ ?_
      rotate_left
      ·intro w'
       go_simp
       with_reducible rfl
      rotate_left
      ·simp only [Act.put, s0_, s1_, s2_, i64_w, i32_w]
       rfl
      refine val_ (v := ?_) (a' := ?_) 4 21 bz11_5 rfl rfl HT_.out (by kernel_rfl) (by rfl) (fun _ _ _ h => h) ?_ ?_ ?_
      rotate_left
      ·intro w'
       go_simp
       with_reducible rfl
      rotate_left
      ·simp only [Act.put, s0_, s1_, s2_, i64_w, i32_w]
       rfl
      refine val_ (v := ?_) (a' := ?_) 5 22 bz11_6 rfl rfl HT_.out (by kernel_rfl) (by rfl) (fun _ _ _ h => h) ?_ ?_ ?_
      rotate_left
      ·intro w'
       go_simp
       with_reducible rfl
      rotate_left
      ·simp only [Act.put, s0_, s1_, s2_, i64_w, i32_w]
       rfl
      refine one_ (i := 6) (N := some 23) bz11_7 rfl rfl (one_of HT_.out (by kernel_rfl)) (by decide) (fun K hK => ?_)
      refine goes_ Try.func172 (by kernel_rfl) rfl #[.slice (some ad219) l0.length c0, .slice (some ad216) (rd_L5 l1 x12_1).length c214_0] (by rfl) rfl rfl (by (try simp only [List.map_toArray, List.map_cons, List.map_nil]); first | done | rfl) ?_
      with_reducible refine (impl_composedOk.calls _ _ l0 _ _ (rd_L5 l1 x12_1) true _ ?side1 ?side2 ?side3 ?side4 A8.out).mono ?_
      (case side1 => exact (Kd.C_below HR0.out HB.out))
      (case side2 => exact HC0.out)
      (case side3 => exact (Kd.C_below HR214_0.out HB.out))
      (case side4 => exact HC214_0.out)
      rintro e w31 ⟨rfl, hb⟩
      refine ⟨_, rfl, ?_⟩
      have n0_ := Aside0.mk (below_step (by repeat (first | exact HB.out | apply below_alloc | apply pw_below_drewN | apply below_drew1)) hb)
      clear HB
      have HB := n0_
      clear n0_
      (try clear hb)
      (try clear hb2)
      (try clear hk)
      (try clear hi)
      refine hK.out _ _ ⟨((HB.out.cell (World.block_lt_of_cell? w _ hw216_0)).trans hw216_0), ((HB.out.cell (World.block_lt_of_cell? w _ hw217_0)).trans hw217_0), ((HB.out.cell (World.block_lt_of_cell? w _ hw218_0)).trans hw218_0), ((HB.out.cell (World.block_lt_of_cell? w _ hw219_0)).trans hw219_0), ((HB.out.cell (World.block_lt_of_cell? w _ hw219_1)).trans hw219_1), ((HB.out.cell (World.block_lt_of_cell? w _ hw219_2)).trans hw219_2), ((HB.out.cell (World.block_lt_of_cell? w _ hw220_0)).trans hw220_0), ((HB.out.cell (World.block_lt_of_cell? w _ hw221_0)).trans hw221_0), ((HB.out.cell (World.block_lt_of_cell? w _ hw221_1)).trans hw221_1), ((HB.out.cell (World.block_lt_of_cell? w _ hw221_2)).trans hw221_2)⟩ (fun hHeld => ?_)
      clear hK K
      refine norm_ (a' := ?_) ?_ ?_
      rotate_left
      ·show Act.put _ (some 23) _ = _
       simp only [Act.put, s0_, s1_, s2_, i64_w, i32_w]
       rfl
      refine val_ (v := ?_) (a' := ?_) 7 24 bz11_8 rfl rfl HT_.out (by kernel_rfl) (by rfl) (fun _ _ _ h => h) ?_ ?_ ?_
      rotate_left
      ·intro w'
       go_simp
       with_reducible rfl
      rotate_left
      ·simp only [Act.put, s0_, s1_, s2_, i64_w, i32_w]
       rfl
      refine val_ (v := ?_) (a' := ?_) 8 25 bz11_9 rfl rfl HT_.out (by kernel_rfl) (by rfl) (fun _ _ _ h => h) ?_ ?_ ?_
      rotate_left
      ·intro w'
       go_simp
       with_reducible rfl
      rotate_left
      ·simp only [Act.put, s0_, s1_, s2_, i64_w, i32_w]
       rfl
      refine val_ (v := ?_) (a' := ?_) 9 26 bz11_10 rfl rfl HT_.out (by kernel_rfl) (by rfl) (fun _ _ _ h => h) ?_ ?_ ?_
      rotate_left
      ·intro w'
       go_simp
       with_reducible rfl
      rotate_left
      ·simp only [Act.put, s0_, s1_, s2_, i64_w, i32_w]
       rfl
      refine val_ (v := ?_) (a' := ?_) 10 27 bz11_11 rfl rfl HT_.out (by kernel_rfl) (by rfl) (fun _ _ _ h => h) ?_ ?_ ?_
      rotate_left
      ·intro w'
       go_simp
       with_reducible rfl
      rotate_left
      ·simp only [Act.put, s0_, s1_, s2_, i64_w, i32_w]
       rfl
      refine val_ (v := ?_) (a' := ?_) 11 28 bz11_12 rfl rfl HT_.out (by kernel_rfl) (by rfl) (fun _ _ _ h => h) ?_ ?_ ?_
      rotate_left
      ·intro w'
       go_simp
       with_reducible rfl
      rotate_left
      ·simp only [Act.put, s0_, s1_, s2_, i64_w, i32_w]
       rfl
      refine val_ (v := ?_) (a' := ?_) 13 30 bz11_13 rfl rfl HT_.out (by kernel_rfl) (by rfl) (fun _ _ _ h => h) ?_ ?_ ?_
      rotate_left
      ·intro w'
       go_simp
       with_reducible rfl
      rotate_left
      ·simp only [Act.put, s0_, s1_, s2_, i64_w, i32_w]
       rfl
      refine val_ (v := ?_) (a' := ?_) 14 31 bz11_14 rfl rfl HT_.out (by kernel_rfl) (by rfl) (fun _ _ _ h => h) ?_ ?_ ?_
      rotate_left
      ·intro w'
       go_simp
       with_reducible rfl
      rotate_left
      ·simp only [Act.put, s0_, s1_, s2_, i64_w, i32_w]
       rfl
      refine take_ (i := 12) (N := some 29) (v := ?_) (a' := ?_) bz11_15 rfl rfl (take_ofW HT_.out HW_.out (by kernel_rfl)) (fun _ _ _ h => h) (Or.inl ⟨by rfl, ?_⟩) hHeld ?_ ?_
      rotate_left
      ·rintro w' ⟨s0, s1, s2, s3, s4, s5, s6, s7, s8, s9⟩
       go_simp
       with_reducible rfl
      rotate_left
      ·simp only [Act.put, s0_, s1_, s2_, i64_w, i32_w]
       rfl
      refine take_ (i := 15) (N := some 32) (v := ?_) (a' := ?_) bz11_16 rfl rfl (take_ofW HT_.out HW_.out (by kernel_rfl)) (fun _ _ _ h => h) (Or.inl ⟨by rfl, ?_⟩) hHeld ?_ ?_
      rotate_left
      ·rintro w' ⟨s0, s1, s2, s3, s4, s5, s6, s7, s8, s9⟩
       go_simp
       with_reducible rfl
      rotate_left
      ·simp only [Act.put, s0_, s1_, s2_, i64_w, i32_w]
       rfl
      refine val_ (v := ?_) (a' := ?_) 16 33 bz11_17 rfl rfl HT_.out (by kernel_rfl) (by rfl) (fun _ _ _ h => h) ?_ ?_ ?_
      rotate_left
      ·intro w'
       go_simp
       with_reducible rfl
      rotate_left
      ·simp only [Act.put, s0_, s1_, s2_, i64_w, i32_w]
       rfl
      refine val_ (v := ?_) (a' := ?_) 17 34 bz11_18 rfl rfl HT_.out (by kernel_rfl) (by rfl) (fun _ _ _ h => h) ?_ ?_ ?_
      rotate_left
      ·intro w'
       go_simp
       with_reducible rfl
      rotate_left
      ·simp only [Act.put, s0_, s1_, s2_, i64_w, i32_w]
       rfl
      refine val_ (v := ?_) (a' := ?_) 18 35 bz11_19 rfl rfl HT_.out (by kernel_rfl) (by rfl) (fun _ _ _ h => h) ?_ ?_ ?_
      rotate_left
      ·intro w'
       go_simp
       with_reducible rfl
      rotate_left
      ·simp only [Act.put, s0_, s1_, s2_, i64_w, i32_w]
       rfl
      refine val_ (v := ?_) (a' := ?_) 19 36 bz11_25 rfl rfl HT_.out (by kernel_rfl) (by rfl) (fun _ _ _ h => h) ?_ ?_ ?_
      rotate_left
      ·intro w'
       go_simp
       with_reducible rfl
      rotate_left
      ·simp only [Act.put, s0_, s1_, s2_, i64_w, i32_w]
       rfl
      refine val_ (v := ?_) (a' := ?_) 20 37 bz11_26 rfl rfl HT_.out (by kernel_rfl) (by rfl) (fun _ _ _ h => h) ?_ ?_ ?_
      rotate_left
      ·intro w'
       go_simp
       with_reducible rfl
      rotate_left
      ·simp only [Act.put, s0_, s1_, s2_, i64_w, i32_w]
       rfl
      refine val_ (v := ?_) (a' := ?_) 21 38 bz11_27 rfl rfl HT_.out (by kernel_rfl) (by rfl) (fun _ _ _ h => h) ?_ ?_ ?_
      rotate_left
      ·intro w'
       go_simp
       with_reducible rfl
      rotate_left
      ·simp only [Act.put, s0_, s1_, s2_, i64_w, i32_w]
       rfl
      refine val_ (v := ?_) (a' := ?_) 26 43 bz11_28 rfl rfl HT_.out (by kernel_rfl) (by rfl) (fun _ _ _ h => h) ?_ ?_ ?_
      rotate_left
      ·intro w'
       go_simp
       with_reducible rfl
      rotate_left
      ·simp only [Act.put, s0_, s1_, s2_, i64_w, i32_w]
       rfl
      refine val_ (v := ?_) (a' := ?_) 27 44 bz11_29 rfl rfl HT_.out (by kernel_rfl) (by rfl) (fun _ _ _ h => h) ?_ ?_ ?_
      rotate_left
      ·intro w'
       go_simp
       with_reducible rfl
      rotate_left
      ·simp only [Act.put, s0_, s1_, s2_, i64_w, i32_w]
       rfl
      refine val_ (v := ?_) (a' := ?_) 28 45 bz11_30 rfl rfl HT_.out (by kernel_rfl) (by rfl) (fun _ _ _ h => h) ?_ ?_ ?_
      rotate_left
      ·intro w'
       go_simp
       with_reducible rfl
      rotate_left
      ·simp only [Act.put, s0_, s1_, s2_, i64_w, i32_w]
       rfl
      refine take_ (i := 22) (N := some 39) (v := ?_) (a' := ?_) bz11_31 rfl rfl (take_ofW HT_.out HW_.out (by kernel_rfl)) (fun _ _ _ h => h) (Or.inl ⟨by rfl, ?_⟩) hHeld ?_ ?_
      rotate_left
      ·rintro w' ⟨s0, s1, s2, s3, s4, s5, s6, s7, s8, s9⟩
       go_simp
       with_reducible rfl
      rotate_left
      ·simp only [Act.put, s0_, s1_, s2_, i64_w, i32_w]
       rfl
      refine val_ (v := ?_) (a' := ?_) 23 40 bz11_32 rfl rfl HT_.out (by kernel_rfl) (by rfl) (fun _ _ _ h => h) ?_ ?_ ?_
      rotate_left
      ·intro w'
       go_simp
       with_reducible rfl
      rotate_left
      ·simp only [Act.put, s0_, s1_, s2_, i64_w, i32_w]
       rfl
      refine val_ (v := ?_) (a' := ?_) 24 41 bz11_33 rfl rfl HT_.out (by kernel_rfl) (by rfl) (fun _ _ _ h => h) ?_ ?_ ?_
      rotate_left
      ·intro w'
       go_simp
       with_reducible rfl
      rotate_left
      ·simp only [Act.put, s0_, s1_, s2_, i64_w, i32_w]
       rfl
      refine take_ (i := 25) (N := some 42) (v := ?_) (a' := ?_) bz11_34 rfl rfl (take_ofW HT_.out HW_.out (by kernel_rfl)) (fun _ _ _ h => h) (Or.inl ⟨by rfl, ?_⟩) hHeld ?_ ?_
      rotate_left
      ·rintro w' ⟨s0, s1, s2, s3, s4, s5, s6, s7, s8, s9⟩
       go_simp
       with_reducible rfl
      rotate_left
      ·simp only [Act.put, s0_, s1_, s2_, i64_w, i32_w]
       rfl
      refine take_ (i := 29) (N := some 46) (v := ?_) (a' := ?_) bz11_35 rfl rfl (take_ofW HT_.out HW_.out (by kernel_rfl)) (fun _ _ _ h => h) (Or.inl ⟨by rfl, ?_⟩) hHeld ?_ ?_
      rotate_left
      ·rintro w' ⟨s0, s1, s2, s3, s4, s5, s6, s7, s8, s9⟩
       go_simp
       with_reducible rfl
      rotate_left
      ·simp only [Act.put, s0_, s1_, s2_, i64_w, i32_w]
       rfl
      refine val_ (v := ?_) (a' := ?_) 30 47 bz11_36 rfl rfl HT_.out (by kernel_rfl) (by rfl) (fun _ _ _ h => h) ?_ ?_ ?_
      rotate_left
      ·intro w'
       go_simp
       with_reducible rfl
      rotate_left
      ·simp only [Act.put, s0_, s1_, s2_, i64_w, i32_w]
       rfl
      refine val_ (v := ?_) (a' := ?_) 31 48 bz11_37 rfl rfl HT_.out (by kernel_rfl) (by rfl) (fun _ _ _ h => h) ?_ ?_ ?_
      rotate_left
      ·intro w'
       go_simp
       with_reducible rfl
      rotate_left
      ·simp only [Act.put, s0_, s1_, s2_, i64_w, i32_w]
       rfl
      refine take_ (i := 32) (N := some 49) (v := ?_) (a' := ?_) bz11_38 rfl rfl (take_ofW HT_.out HW_.out (by kernel_rfl)) (fun _ _ _ h => h) (Or.inl ⟨by rfl, ?_⟩) hHeld ?_ ?_
      rotate_left
      ·rintro w' ⟨s0, s1, s2, s3, s4, s5, s6, s7, s8, s9⟩
       go_simp
       with_reducible rfl
      rotate_left
      ·simp only [Act.put, s0_, s1_, s2_, i64_w, i32_w]
       rfl
      refine val_ (v := ?_) (a' := ?_) 33 50 bz11_20 rfl rfl HT_.out (by kernel_rfl) (by rfl) (fun _ _ _ h => h) ?_ ?_ ?_
      rotate_left
      ·intro w'
       go_simp
       with_reducible rfl
      rotate_left
      ·simp only [Act.put, s0_, s1_, s2_, i64_w, i32_w]
       rfl
      refine val_ (v := ?_) (a' := ?_) 34 51 bz11_21 rfl rfl HT_.out (by kernel_rfl) (by rfl) (fun _ _ _ h => h) ?_ ?_ ?_
      rotate_left
      ·intro w'
       go_simp
       with_reducible rfl
      rotate_left
      ·simp only [Act.put, s0_, s1_, s2_, i64_w, i32_w]
       rfl
      refine val_ (v := ?_) (a' := ?_) 35 52 bz11_22 rfl rfl HT_.out (by kernel_rfl) (by rfl) (fun _ _ _ h => h) ?_ ?_ ?_
      rotate_left
      ·intro w'
       go_simp
       with_reducible rfl
      rotate_left
      ·simp only [Act.put, s0_, s1_, s2_, i64_w, i32_w]
       rfl
      refine val_ (v := ?_) (a' := ?_) 36 53 bz11_39 rfl rfl HT_.out (by kernel_rfl) (by rfl) (fun _ _ _ h => h) ?_ ?_ ?_
      rotate_left
      ·intro w'
       go_simp
       with_reducible rfl
      rotate_left
      ·simp only [Act.put, s0_, s1_, s2_, i64_w, i32_w]
       rfl
      refine val_ (v := ?_) (a' := ?_) 37 54 bz11_40 rfl rfl HT_.out (by kernel_rfl) (by rfl) (fun _ _ _ h => h) ?_ ?_ ?_
      rotate_left
      ·intro w'
       go_simp
       with_reducible rfl
      rotate_left
      ·simp only [Act.put, s0_, s1_, s2_, i64_w, i32_w]
       rfl
      refine val_ (v := ?_) (a' := ?_) 38 55 bz11_41 rfl rfl HT_.out (by kernel_rfl) (by rfl) (fun _ _ _ h => h) ?_ ?_ ?_
      rotate_left
      ·intro w'
       go_simp
       with_reducible rfl
      rotate_left
      ·simp only [Act.put, s0_, s1_, s2_, i64_w, i32_w]
       rfl
      refine unds_ [(39, 56), (40, 57), (41, 58), (42, 59), (43, 60), (44, 61), (45, 62), (46, 63), (47, 64), (48, 65), (49, 66)] (a' := ?_) 2 bz11_52 HT_.out (by kernel_rfl) (by kernel_rfl) (fun _ _ _ _ _ h => h) rfl ?_ ?_
      rotate_left
      ·simp only [putU, Act.put, s0_, s1_, s2_, i64_w, i32_w]
       rfl
      refine val_ (v := ?_) (a' := ?_) 50 67 bz11_23 rfl rfl HT_.out (by kernel_rfl) (by rfl) (fun _ _ _ h => h) ?_ ?_ ?_
      rotate_left
      ·intro w'
       go_simp
       with_reducible rfl
      rotate_left
      ·simp only [Act.put, s0_, s1_, s2_, i64_w, i32_w]
       rfl
      refine val_ (v := ?_) (a' := ?_) 51 68 bz11_24 rfl rfl HT_.out (by kernel_rfl) (by rfl) (fun _ _ _ h => h) ?_ ?_ ?_
      rotate_left
      ·intro w'
       go_simp
       with_reducible rfl
      rotate_left
      ·simp only [Act.put, s0_, s1_, s2_, i64_w, i32_w]
       rfl
      refine done_ (done_of HT_.out (by kernel_rfl)) ?_
      try go_wp2
      go_roundg k1
      case measure => have := HK1.out; omega
      case rel => exact ⟨(wrap64 (x12_1 + 1)), (by first | rfl | (simp; done) | (simp [*]; done)), H', ⟨by have := HK1.out; omega⟩, ⟨by repeat (first | exact HB.out | apply below_alloc | apply pw_below_drewN | apply below_drew1)⟩⟩
     rw [if_pos c20] at H
     have c20b0 : decide (0 < x12_1) = true := decide_eq_true c20
     clear c20
     obtain ⟨ji21, hji21⟩ : ∃ j_ : Int, (wrap64 (x12_1 - 1)) = j_ := ⟨_, rfl⟩
     replace H : (if 0 ≤ (ji21) then (if (ji21) < (l1.length : Int) then (if 0 < ((rd_L5 l1 (ji21)).length : Int) then (if (rd (rd_L5 l1 x12_1) 0) ≤ (rd (rd_L5 l1 (ji21)) 0) then (some false) else (impl_pairsOk.l0 k1 l0 l1 l1 (l1.length : Int) (wrap64 (x12_1 + 1)))) else (none)) else (none)) else (none)) = some r := by first | (rw [hji21] at H; exact H) | (simp only [hji21] at H ⊢; exact H)
     (try rw [hji21] at A8)
     have hji21w : (IntKind.i64.wrap (x12_1 - 1)) = ji21 := (i64_w _).trans hji21
     by_cases c22 : 0 ≤ (ji21)
     rotate_left
     ·rw [if_neg c22] at H
      exact absurd H (by simp)
     rw [if_pos c22] at H
     have c22b0 : decide (0 ≤ (ji21)) = true := decide_eq_true c22
     clear c22
     by_cases c23 : (ji21) < (l1.length : Int)
     rotate_left
     ·rw [if_neg c23] at H
      exact absurd H (by simp)
     rw [if_pos c23] at H
     have c23b0 : decide ((ji21) < (l1.length : Int)) = true := decide_eq_true c23
     clear c23
     by_cases c24 : 0 < ((rd_L5 l1 (ji21)).length : Int)
     rotate_left
     ·rw [if_neg c24] at H
      exact absurd H (by simp)
     rw [if_pos c24] at H
     have c24b0 : decide (0 < ((rd_L5 l1 (ji21)).length : Int)) = true := decide_eq_true c24
     have c24b1 : decide (0 < (rd_L5 l1 (ji21)).length) = true := decide_eq_true (by omega)
     clear c24
     by_cases c25 : (rd (rd_L5 l1 x12_1) 0) ≤ (rd (rd_L5 l1 (ji21)) 0)
     rotate_left
     ·rw [if_neg c25] at H
      have c25b0 : decide ((rd (rd_L5 l1 x12_1) 0) ≤ (rd (rd_L5 l1 (ji21)) 0)) = false := decide_eq_false c25
      clear c25
      have H' := Aside0.mk H
      clear H
      have p214 : 0 ≤ (x12_1 : Int) := of_decide_eq_true (by assumption)
      have q214 : x12_1 < (l1.length : Int) := of_decide_eq_true (by assumption)
      obtain ⟨ad214, A214_0, c214_0, e214, hx214_0, hl214_0, hi214_0⟩ := at_L5 HR1.out x12_1 p214 q214
      cases e214
      replace hx214_0 := (HB.out.cell (World.block_lt_of_cell? w _ hx214_0)).trans hx214_0
      have HR214_0 := Aside0.mk hi214_0
      have HC214_0 := Aside0.mk hl214_0
      clear hi214_0 hl214_0
      replace p214 := eq_true p214
      replace q214 := eq_true q214
      try go_wp2
      have n0_ := Aside0.mk (below_drew1 HB.out)
      clear HB
      have HB := n0_
      clear n0_
      have p216 : 0 ≤ (0 : Int) := (by omega)
      have q216 : 0 < ((rd_L5 l1 x12_1).length : Int) := of_decide_eq_true (by assumption)
      obtain ⟨ad216, e216, hx216_0⟩ := Kd.at_int HR214_0.out 0 p216 q216
      have hw216_0 := hx216_0
      (try rw [show ((0 : Int)).toNat = 0 from rfl] at hw216_0)
      (try rw [show 0 * 1 = 0 from rfl] at hw216_0)
      (try rw [Addr.add_zero'] at hw216_0)
      cases e216
      have qi216 : (0 < (rd_L5 l1 x12_1).length) = True := eq_true (by omega)
      (try rw [show ((0 : Int)).toNat = 0 from rfl] at hx216_0)
      (try rw [Addr.add_zero'] at hx216_0)
      replace hx216_0 := (HB.out.cell (World.block_lt_of_cell? w _ hx216_0)).trans hx216_0
      replace p216 := eq_true p216
      replace q216 := eq_true q216
      have p217 : 0 ≤ (1 : Int) := (by omega)
      have q217 : 1 < ((rd_L5 l1 x12_1).length : Int) := of_decide_eq_true (by assumption)
      obtain ⟨ad217, e217, hx217_0⟩ := Kd.at_int HR214_0.out 1 p217 q217
      have hw217_0 := hx217_0
      (try rw [show ((1 : Int)).toNat = 1 from rfl] at hw217_0)
      (try rw [show 1 * 1 = 1 from rfl] at hw217_0)
      (try simp only [Nat.reduceMul, Nat.reduceEqDiff, Go.Addr.add, ↓reduceIte] at hw217_0)
      obtain rfl : ad216 = ad217 := (by injection e217)
      (try simp only [show (1 : Int).toNat = 1 from rfl, Nat.reduceMul, Nat.reduceEqDiff, Go.Addr.add, ↓reduceIte] at hx217_0)
      have qi217 : (1 < (rd_L5 l1 x12_1).length) = True := eq_true (by omega)
      (try rw [show ((1 : Int)).toNat = 1 from rfl] at hx217_0)
      replace hx217_0 := (HB.out.cell (World.block_lt_of_cell? w _ hx217_0)).trans hx217_0
      replace p217 := eq_true p217
      replace q217 := eq_true q217
      have p218 : 0 ≤ (0 : Int) := (by omega)
      have q218 : 0 < ((rd_L5 l1 x12_1).length : Int) := of_decide_eq_true (by assumption)
      obtain ⟨ad218, e218, hx218_0⟩ := Kd.at_int HR214_0.out 0 p218 q218
      have hw218_0 := hx218_0
      (try rw [show ((0 : Int)).toNat = 0 from rfl] at hw218_0)
      (try rw [show 0 * 1 = 0 from rfl] at hw218_0)
      (try rw [Addr.add_zero'] at hw218_0)
      obtain rfl : ad216 = ad218 := (by injection e218)
      have qi218 : (0 < (rd_L5 l1 x12_1).length) = True := eq_true (by omega)
      (try rw [show ((0 : Int)).toNat = 0 from rfl] at hx218_0)
      (try rw [Addr.add_zero'] at hx218_0)
      replace hx218_0 := (HB.out.cell (World.block_lt_of_cell? w _ hx218_0)).trans hx218_0
      replace p218 := eq_true p218
      replace q218 := eq_true q218
      have p219 : 0 ≤ ((rd (rd_L5 l1 x12_1) 0) : Int) := of_decide_eq_true (by assumption)
      have q219 : (rd (rd_L5 l1 x12_1) 0) < (l0.length : Int) := of_decide_eq_true (by assumption)
      obtain ⟨ad219, e219, hx219_0, hx219_1, hx219_2⟩ := at_T103 HR0.out (rd (rd_L5 l1 x12_1) 0) p219 q219
      have hw219_2 := hx219_2
      have hw219_1 := hx219_1
      have hw219_0 := hx219_0
      cases e219
      replace hx219_0 := (HB.out.cell (World.block_lt_of_cell? w _ hx219_0)).trans hx219_0
      replace hx219_1 := (HB.out.cell (World.block_lt_of_cell? w _ hx219_1)).trans hx219_1
      replace hx219_2 := (HB.out.cell (World.block_lt_of_cell? w _ hx219_2)).trans hx219_2
      replace p219 := eq_true p219
      replace q219 := eq_true q219
      have p220 : 0 ≤ (1 : Int) := (by omega)
      have q220 : 1 < ((rd_L5 l1 x12_1).length : Int) := of_decide_eq_true (by assumption)
      obtain ⟨ad220, e220, hx220_0⟩ := Kd.at_int HR214_0.out 1 p220 q220
      have hw220_0 := hx220_0
      (try rw [show ((1 : Int)).toNat = 1 from rfl] at hw220_0)
      (try rw [show 1 * 1 = 1 from rfl] at hw220_0)
      (try simp only [Nat.reduceMul, Nat.reduceEqDiff, Go.Addr.add, ↓reduceIte] at hw220_0)
      obtain rfl : ad216 = ad220 := (by injection e220)
      (try simp only [show (1 : Int).toNat = 1 from rfl, Nat.reduceMul, Nat.reduceEqDiff, Go.Addr.add, ↓reduceIte] at hx220_0)
      have qi220 : (1 < (rd_L5 l1 x12_1).length) = True := eq_true (by omega)
      (try rw [show ((1 : Int)).toNat = 1 from rfl] at hx220_0)
      replace hx220_0 := (HB.out.cell (World.block_lt_of_cell? w _ hx220_0)).trans hx220_0
      replace p220 := eq_true p220
      replace q220 := eq_true q220
      have p221 : 0 ≤ ((rd (rd_L5 l1 x12_1) 1) : Int) := of_decide_eq_true (by assumption)
      have q221 : (rd (rd_L5 l1 x12_1) 1) < (l0.length : Int) := of_decide_eq_true (by assumption)
      obtain ⟨ad221, e221, hx221_0, hx221_1, hx221_2⟩ := at_T103 HR0.out (rd (rd_L5 l1 x12_1) 1) p221 q221
      have hw221_2 := hx221_2
      have hw221_1 := hx221_1
      have hw221_0 := hx221_0
      obtain rfl : ad219 = ad221 := (by injection e221)
      replace hx221_0 := (HB.out.cell (World.block_lt_of_cell? w _ hx221_0)).trans hx221_0
      replace hx221_1 := (HB.out.cell (World.block_lt_of_cell? w _ hx221_1)).trans hx221_1
      replace hx221_2 := (HB.out.cell (World.block_lt_of_cell? w _ hx221_2)).trans hx221_2
      replace p221 := eq_true p221
      replace q221 := eq_true q221
      have p222 : 0 ≤ (0 : Int) := (by omega)
      have q222 : 0 < ((rd_L5 l1 x12_1).length : Int) := of_decide_eq_true (by assumption)
      obtain ⟨ad222, e222, hx222_0⟩ := Kd.at_int HR214_0.out 0 p222 q222
      have hw222_0 := hx222_0
      (try rw [show ((0 : Int)).toNat = 0 from rfl] at hw222_0)
      (try rw [show 0 * 1 = 0 from rfl] at hw222_0)
      (try rw [Addr.add_zero'] at hw222_0)
      obtain rfl : ad216 = ad222 := (by injection e222)
      have qi222 : (0 < (rd_L5 l1 x12_1).length) = True := eq_true (by omega)
      (try rw [show ((0 : Int)).toNat = 0 from rfl] at hx222_0)
      (try rw [Addr.add_zero'] at hx222_0)
      replace hx222_0 := (HB.out.cell (World.block_lt_of_cell? w _ hx222_0)).trans hx222_0
      replace p222 := eq_true p222
      replace q222 := eq_true q222
      have p223 : 0 ≤ ((ji21) : Int) := of_decide_eq_true (by assumption)
      have q223 : (ji21) < (l1.length : Int) := of_decide_eq_true (by assumption)
      obtain ⟨ad223, A223_0, c223_0, e223, hx223_0, hl223_0, hi223_0⟩ := at_L5 HR1.out (ji21) p223 q223
      have hw223_0 := hx223_0
      obtain rfl : ad214 = ad223 := (by injection e223)
      replace hx223_0 := (HB.out.cell (World.block_lt_of_cell? w _ hx223_0)).trans hx223_0
      have HR223_0 := Aside0.mk hi223_0
      have HC223_0 := Aside0.mk hl223_0
      clear hi223_0 hl223_0
      replace p223 := eq_true p223
      replace q223 := eq_true q223
      have p224 : 0 ≤ (0 : Int) := (by omega)
      have q224 : 0 < ((rd_L5 l1 (ji21)).length : Int) := of_decide_eq_true (by assumption)
      obtain ⟨ad224, e224, hx224_0⟩ := Kd.at_int HR223_0.out 0 p224 q224
      have hw224_0 := hx224_0
      (try rw [show ((0 : Int)).toNat = 0 from rfl] at hw224_0)
      (try rw [show 0 * 1 = 0 from rfl] at hw224_0)
      (try rw [Addr.add_zero'] at hw224_0)
      cases e224
      have qi224 : (0 < (rd_L5 l1 (ji21)).length) = True := eq_true (by omega)
      (try rw [show ((0 : Int)).toNat = 0 from rfl] at hx224_0)
      (try rw [Addr.add_zero'] at hx224_0)
      replace hx224_0 := (HB.out.cell (World.block_lt_of_cell? w _ hx224_0)).trans hx224_0
      replace p224 := eq_true p224
      replace q224 := eq_true q224
      refine start_ (n := 52) (S := fun w' => w'.cell? ad216 = some (.int .i64 (rd (rd_L5 l1 x12_1) 0)) ∧ w'.cell? ⟨ad216.block, ad216.off + 1, none⟩ = some (.int .i64 (rd (rd_L5 l1 x12_1) 1)) ∧ w'.cell? ad216 = some (.int .i64 (rd (rd_L5 l1 x12_1) 0)) ∧ w'.cell? (ad219.add (((rd (rd_L5 l1 x12_1) 0)).toNat * 3)) = some (.string ((rd_T103 l0 (rd (rd_L5 l1 x12_1) 0)).f0)) ∧ w'.cell? ⟨(ad219.add (((rd (rd_L5 l1 x12_1) 0)).toNat * 3)).block, (ad219.add (((rd (rd_L5 l1 x12_1) 0)).toNat * 3)).off + 1, none⟩ = some (.int .i64 ((rd_T103 l0 (rd (rd_L5 l1 x12_1) 0)).f1)) ∧ w'.cell? ⟨(ad219.add (((rd (rd_L5 l1 x12_1) 0)).toNat * 3)).block, (ad219.add (((rd (rd_L5 l1 x12_1) 0)).toNat * 3)).off + 2, none⟩ = some (.int .i64 ((rd_T103 l0 (rd (rd_L5 l1 x12_1) 0)).f2)) ∧ w'.cell? ⟨ad216.block, ad216.off + 1, none⟩ = some (.int .i64 (rd (rd_L5 l1 x12_1) 1)) ∧ w'.cell? (ad219.add (((rd (rd_L5 l1 x12_1) 1)).toNat * 3)) = some (.string ((rd_T103 l0 (rd (rd_L5 l1 x12_1) 1)).f0)) ∧ w'.cell? ⟨(ad219.add (((rd (rd_L5 l1 x12_1) 1)).toNat * 3)).block, (ad219.add (((rd (rd_L5 l1 x12_1) 1)).toNat * 3)).off + 1, none⟩ = some (.int .i64 ((rd_T103 l0 (rd (rd_L5 l1 x12_1) 1)).f1)) ∧ w'.cell? ⟨(ad219.add (((rd (rd_L5 l1 x12_1) 1)).toNat * 3)).block, (ad219.add (((rd (rd_L5 l1 x12_1) 1)).toNat * 3)).off + 2, none⟩ = some (.int .i64 ((rd_T103 l0 (rd (rd_L5 l1 x12_1) 1)).f2)) ∧ w'.cell? ad216 = some (.int .i64 (rd (rd_L5 l1 x12_1) 0)) ∧ w'.cell? (ad214.add ((ji21)).toNat) = some (.slice (some ad224) (rd_L5 l1 (ji21)).length c223_0) ∧ w'.cell? ad224 = some (.int .i64 (rd (rd_L5 l1 (ji21)) 0))) (ds := []) bz11_0 (by kernel_rfl) rfl rfl ⟨((HB.out.cell (World.block_lt_of_cell? w _ hw216_0)).trans hw216_0), ((HB.out.cell (World.block_lt_of_cell? w _ hw217_0)).trans hw217_0), ((HB.out.cell (World.block_lt_of_cell? w _ hw218_0)).trans hw218_0), ((HB.out.cell (World.block_lt_of_cell? w _ hw219_0)).trans hw219_0), ((HB.out.cell (World.block_lt_of_cell? w _ hw219_1)).trans hw219_1), ((HB.out.cell (World.block_lt_of_cell? w _ hw219_2)).trans hw219_2), ((HB.out.cell (World.block_lt_of_cell? w _ hw220_0)).trans hw220_0), ((HB.out.cell (World.block_lt_of_cell? w _ hw221_0)).trans hw221_0), ((HB.out.cell (World.block_lt_of_cell? w _ hw221_1)).trans hw221_1), ((HB.out.cell (World.block_lt_of_cell? w _ hw221_2)).trans hw221_2), ((HB.out.cell (World.block_lt_of_cell? w _ hw222_0)).trans hw222_0), ((HB.out.cell (World.block_lt_of_cell? w _ hw223_0)).trans hw223_0), ((HB.out.cell (World.block_lt_of_cell? w _ hw224_0)).trans hw224_0)⟩ (fun hHeld => ?_); refine with_tabW impl_pairsOk.tab6 impl_pairsOk.bits6 (fun HT_ HW_ => ?_)
      generalize wr.drew = w28 at HB HR223_0 hx216_0 hx217_0 hx218_0 hx219_0 hx219_1 hx219_2 hx220_0 hx221_0 hx221_1 hx221_2 hx222_0 hx223_0 hx224_0 hHeld ⊢
      refine val_ (v := ?_) (a' := ?_) 0 17 bz11_1 rfl rfl HT_.out (by kernel_rfl) (by rfl) (fun _ _ _ h => h) ?_ ?_ ?_
      rotate_left
      ·intro w'
       go_simp
       with_reducible rfl
      rotate_left
      ·simp only [Act.put, s0_, s1_, s2_, i64_w, i32_w]
       rfl
      refine val_ (v := ?_) (a' := ?_) 1 18 bz11_2 rfl rfl HT_.out (by kernel_rfl) (by rfl) (fun _ _ _ h => h) ?_ ?_ ?_
      rotate_left
      ·intro w'
       go_simp
       with_reducible rfl
      rotate_left
      ·simp only [Act.put, s0_, s1_, s2_, i64_w, i32_w]
       rfl
      refine val_ (v := ?_) (a' := ?_) 2 19 bz11_3 rfl rfl HT_.out (by kernel_rfl) (by rfl) (fun _ _ _ h => h) ?_ ?_ ?_
      rotate_left
      ·intro w'
       go_simp
       with_reducible rfl
      rotate_left
      ·simp only [Act.put, s0_, s1_, s2_, i64_w, i32_w]
       rfl
      refine val_ (v := ?_) (a' := ?_) 3 20 bz11_4 rfl rfl HT_.out (by kernel_rfl) (by rfl) (fun _ _ _ h => h) ?_ ?_ ?_
      rotate_left
      ·intro w'
       go_simp
       with_reducible rfl
      rotate_left
      ·simp only [Act.put, s0_, s1_, s2_, i64_w, i32_w]
       rfl
      refine val_ (v := ?_) (a' := ?_) 4 21 bz11_5 rfl rfl HT_.out (by kernel_rfl) (by rfl) (fun _ _ _ h => h) ?_ ?_ ?_
      rotate_left
      ·intro w'
       go_simp
       with_reducible rfl
      rotate_left
      ·simp only [Act.put, s0_, s1_, s2_, i64_w, i32_w]
       rfl
      refine val_ (v := ?_) (a' := ?_) 5 22 bz11_6 rfl rfl HT_.out (by kernel_rfl) (by rfl) (fun _ _ _ h => h) ?_ ?_ ?_
      rotate_left
      ·intro w'
       go_simp
       with_reducible rfl
      rotate_left
      ·simp only [Act.put, s0_, s1_, s2_, i64_w, i32_w]
       rfl
      refine one_ (i := 6) (N := some 23) bz11_7 rfl rfl (one_of HT_.out (by kernel_rfl)) (by decide) (fun K hK => ?_)
      refine goes_ Try.func172 (by kernel_rfl) rfl #[.slice (some ad219) l0.length c0, .slice (some ad216) (rd_L5 l1 x12_1).length c214_0] (by rfl) rfl rfl (by (try simp only [List.map_toArray, List.map_cons, List.map_nil]); first | done | rfl) ?_
      with_reducible refine (impl_composedOk.calls _ _ l0 _ _ (rd_L5 l1 x12_1) true _ ?side1 ?side2 ?side3 ?side4 A8.out).mono ?_
      (case side1 => exact (Kd.C_below HR0.out HB.out))
      (case side2 => exact HC0.out)
      (case side3 => exact (Kd.C_below HR214_0.out HB.out))
      (case side4 => exact HC214_0.out)
      rintro e w29 ⟨rfl, hb⟩
      refine ⟨_, rfl, ?_⟩
      have n0_ := Aside0.mk (below_step (by repeat (first | exact HB.out | apply below_alloc | apply pw_below_drewN | apply below_drew1)) hb)
      clear HB
      have HB := n0_
      clear n0_
      (try clear hb)
      (try clear hb2)
      (try clear hk)
      (try clear hi)
      refine hK.out _ _ ⟨((HB.out.cell (World.block_lt_of_cell? w _ hw216_0)).trans hw216_0), ((HB.out.cell (World.block_lt_of_cell? w _ hw217_0)).trans hw217_0), ((HB.out.cell (World.block_lt_of_cell? w _ hw218_0)).trans hw218_0), ((HB.out.cell (World.block_lt_of_cell? w _ hw219_0)).trans hw219_0), ((HB.out.cell (World.block_lt_of_cell? w _ hw219_1)).trans hw219_1), ((HB.out.cell (World.block_lt_of_cell? w _ hw219_2)).trans hw219_2), ((HB.out.cell (World.block_lt_of_cell? w _ hw220_0)).trans hw220_0), ((HB.out.cell (World.block_lt_of_cell? w _ hw221_0)).trans hw221_0), ((HB.out.cell (World.block_lt_of_cell? w _ hw221_1)).trans hw221_1), ((HB.out.cell (World.block_lt_of_cell? w _ hw221_2)).trans hw221_2), ((HB.out.cell (World.block_lt_of_cell? w _ hw222_0)).trans hw222_0), ((HB.out.cell (World.block_lt_of_cell? w _ hw223_0)).trans hw223_0), ((HB.out.cell (World.block_lt_of_cell? w _ hw224_0)).trans hw224_0)⟩ (fun hHeld => ?_)
      clear hK K
      refine norm_ (a' := ?_) ?_ ?_
      rotate_left
      ·show Act.put _ (some 23) _ = _
       simp only [Act.put, s0_, s1_, s2_, i64_w, i32_w]
       rfl
      refine val_ (v := ?_) (a' := ?_) 7 24 bz11_8 rfl rfl HT_.out (by kernel_rfl) (by rfl) (fun _ _ _ h => h) ?_ ?_ ?_
      rotate_left
      ·intro w'
       go_simp
       with_reducible rfl
      rotate_left
      ·simp only [Act.put, s0_, s1_, s2_, i64_w, i32_w]
       rfl
      refine val_ (v := ?_) (a' := ?_) 8 25 bz11_9 rfl rfl HT_.out (by kernel_rfl) (by rfl) (fun _ _ _ h => h) ?_ ?_ ?_
      rotate_left
      ·intro w'
       go_simp
       with_reducible rfl
      rotate_left
      ·simp only [Act.put, s0_, s1_, s2_, i64_w, i32_w]
       rfl
      refine val_ (v := ?_) (a' := ?_) 9 26 bz11_10 rfl rfl HT_.out (by kernel_rfl) (by rfl) (fun _ _ _ h => h) ?_ ?_ ?_
      rotate_left
      ·intro w'
       go_simp
       with_reducible rfl
      rotate_left
      ·simp only [Act.put, s0_, s1_, s2_, i64_w, i32_w]
       rfl
      refine val_ (v := ?_) (a' := ?_) 10 27 bz11_11 rfl rfl HT_.out (by kernel_rfl) (by rfl) (fun _ _ _ h => h) ?_ ?_ ?_
      rotate_left
      ·intro w'
       go_simp
       with_reducible rfl
      rotate_left
      ·simp only [Act.put, s0_, s1_, s2_, i64_w, i32_w]
       rfl
      refine val_ (v := ?_) (a' := ?_) 11 28 bz11_12 rfl rfl HT_.out (by kernel_rfl) (by rfl) (fun _ _ _ h => h) ?_ ?_ ?_
      rotate_left
      ·intro w'
       go_simp
       with_reducible rfl
      rotate_left
      ·simp only [Act.put, s0_, s1_, s2_, i64_w, i32_w]
       rfl
      refine val_ (v := ?_) (a' := ?_) 13 30 bz11_13 rfl rfl HT_.out (by kernel_rfl) (by rfl) (fun _ _ _ h => h) ?_ ?_ ?_
      rotate_left
      ·intro w'
       go_simp
       with_reducible rfl
      rotate_left
      ·simp only [Act.put, s0_, s1_, s2_, i64_w, i32_w]
       rfl
      refine val_ (v := ?_) (a' := ?_) 14 31 bz11_14 rfl rfl HT_.out (by kernel_rfl) (by rfl) (fun _ _ _ h => h) ?_ ?_ ?_
      rotate_left
      ·intro w'
       go_simp
       with_reducible rfl
      rotate_left
      ·simp only [Act.put, s0_, s1_, s2_, i64_w, i32_w]
       rfl
      refine take_ (i := 12) (N := some 29) (v := ?_) (a' := ?_) bz11_15 rfl rfl (take_ofW HT_.out HW_.out (by kernel_rfl)) (fun _ _ _ h => h) (Or.inl ⟨by rfl, ?_⟩) hHeld ?_ ?_
      rotate_left
      ·rintro w' ⟨s0, s1, s2, s3, s4, s5, s6, s7, s8, s9, s10, s11, s12⟩
       go_simp
       with_reducible rfl
      rotate_left
      ·simp only [Act.put, s0_, s1_, s2_, i64_w, i32_w]
       rfl
      refine take_ (i := 15) (N := some 32) (v := ?_) (a' := ?_) bz11_16 rfl rfl (take_ofW HT_.out HW_.out (by kernel_rfl)) (fun _ _ _ h => h) (Or.inl ⟨by rfl, ?_⟩) hHeld ?_ ?_
      rotate_left
      ·rintro w' ⟨s0, s1, s2, s3, s4, s5, s6, s7, s8, s9, s10, s11, s12⟩
       go_simp
       with_reducible rfl
      rotate_left
      ·simp only [Act.put, s0_, s1_, s2_, i64_w, i32_w]
       rfl
      refine val_ (v := ?_) (a' := ?_) 16 33 bz11_17 rfl rfl HT_.out (by kernel_rfl) (by rfl) (fun _ _ _ h => h) ?_ ?_ ?_
      rotate_left
      ·intro w'
       go_simp
       with_reducible rfl
      rotate_left
      ·simp only [Act.put, s0_, s1_, s2_, i64_w, i32_w]
       rfl
      refine val_ (v := ?_) (a' := ?_) 17 34 bz11_18 rfl rfl HT_.out (by kernel_rfl) (by rfl) (fun _ _ _ h => h) ?_ ?_ ?_
      rotate_left
      ·intro w'
       go_simp
       with_reducible rfl
      rotate_left
      ·simp only [Act.put, s0_, s1_, s2_, i64_w, i32_w]
       rfl
      refine val_ (v := ?_) (a' := ?_) 18 35 bz11_19 rfl rfl HT_.out (by kernel_rfl) (by rfl) (fun _ _ _ h => h) ?_ ?_ ?_
      rotate_left
      ·intro w'
       go_simp
       with_reducible rfl
      rotate_left
      ·simp only [Act.put, s0_, s1_, s2_, i64_w, i32_w]
       rfl
      refine val_ (v := ?_) (a' := ?_) 19 36 bz11_25 rfl rfl HT_.out (by kernel_rfl) (by rfl) (fun _ _ _ h => h) ?_ ?_ ?_
      rotate_left
      ·intro w'
       go_simp
       with_reducible rfl
      rotate_left
      ·simp only [Act.put, s0_, s1_, s2_, i64_w, i32_w]
       rfl
      refine val_ (v := ?_) (a' := ?_) 20 37 bz11_26 rfl rfl HT_.out (by kernel_rfl) (by rfl) (fun _ _ _ h => h) ?_ ?_ ?_
      rotate_left
      ·intro w'
       go_simp
       with_reducible rfl
      rotate_left
      ·simp only [Act.put, s0_, s1_, s2_, i64_w, i32_w]
       rfl
      refine val_ (v := ?_) (a' := ?_) 21 38 bz11_27 rfl rfl HT_.out (by kernel_rfl) (by rfl) (fun _ _ _ h => h) ?_ ?_ ?_
      rotate_left
      ·intro w'
       go_simp
       with_reducible rfl
      rotate_left
      ·simp only [Act.put, s0_, s1_, s2_, i64_w, i32_w]
       rfl
      refine val_ (v := ?_) (a' := ?_) 26 43 bz11_28 rfl rfl HT_.out (by kernel_rfl) (by rfl) (fun _ _ _ h => h) ?_ ?_ ?_
      rotate_left
      ·intro w'
       go_simp
       with_reducible rfl
      rotate_left
      ·simp only [Act.put, s0_, s1_, s2_, i64_w, i32_w]
       rfl
      refine val_ (v := ?_) (a' := ?_) 27 44 bz11_29 rfl rfl HT_.out (by kernel_rfl) (by rfl) (fun _ _ _ h => h) ?_ ?_ ?_
      rotate_left
      ·intro w'
       go_simp
       with_reducible rfl
      rotate_left
      ·simp only [Act.put, s0_, s1_, s2_, i64_w, i32_w]
       rfl
      refine val_ (v := ?_) (a' := ?_) 28 45 bz11_30 rfl rfl HT_.out (by kernel_rfl) (by rfl) (fun _ _ _ h => h) ?_ ?_ ?_
      rotate_left
      ·intro w'
       go_simp
       with_reducible rfl
      rotate_left
      ·simp only [Act.put, s0_, s1_, s2_, i64_w, i32_w]
       rfl
      refine take_ (i := 22) (N := some 39) (v := ?_) (a' := ?_) bz11_31 rfl rfl (take_ofW HT_.out HW_.out (by kernel_rfl)) (fun _ _ _ h => h) (Or.inl ⟨by rfl, ?_⟩) hHeld ?_ ?_
      rotate_left
      ·rintro w' ⟨s0, s1, s2, s3, s4, s5, s6, s7, s8, s9, s10, s11, s12⟩
       go_simp
       with_reducible rfl
      rotate_left
      ·simp only [Act.put, s0_, s1_, s2_, i64_w, i32_w]
       rfl
      refine val_ (v := ?_) (a' := ?_) 23 40 bz11_32 rfl rfl HT_.out (by kernel_rfl) (by rfl) (fun _ _ _ h => h) ?_ ?_ ?_
      rotate_left
      ·intro w'
       go_simp
       with_reducible rfl
      rotate_left
      ·simp only [Act.put, s0_, s1_, s2_, i64_w, i32_w]
       rfl
      refine val_ (v := ?_) (a' := ?_) 24 41 bz11_33 rfl rfl HT_.out (by kernel_rfl) (by rfl) (fun _ _ _ h => h) ?_ ?_ ?_
      rotate_left
      ·intro w'
       go_simp
       with_reducible rfl
      rotate_left
      ·simp only [Act.put, s0_, s1_, s2_, i64_w, i32_w]
       rfl
      refine take_ (i := 25) (N := some 42) (v := ?_) (a' := ?_) bz11_34 rfl rfl (take_ofW HT_.out HW_.out (by kernel_rfl)) (fun _ _ _ h => h) (Or.inl ⟨by rfl, ?_⟩) hHeld ?_ ?_
      rotate_left
      ·rintro w' ⟨s0, s1, s2, s3, s4, s5, s6, s7, s8, s9, s10, s11, s12⟩
       go_simp
       with_reducible rfl
      rotate_left
      ·simp only [Act.put, s0_, s1_, s2_, i64_w, i32_w]
       rfl
      refine take_ (i := 29) (N := some 46) (v := ?_) (a' := ?_) bz11_35 rfl rfl (take_ofW HT_.out HW_.out (by kernel_rfl)) (fun _ _ _ h => h) (Or.inl ⟨by rfl, ?_⟩) hHeld ?_ ?_
      rotate_left
      ·rintro w' ⟨s0, s1, s2, s3, s4, s5, s6, s7, s8, s9, s10, s11, s12⟩
       go_simp
       with_reducible rfl
      rotate_left
      ·simp only [Act.put, s0_, s1_, s2_, i64_w, i32_w]
       rfl
      refine val_ (v := ?_) (a' := ?_) 30 47 bz11_36 rfl rfl HT_.out (by kernel_rfl) (by rfl) (fun _ _ _ h => h) ?_ ?_ ?_
      rotate_left
      ·intro w'
       go_simp
       with_reducible rfl
      rotate_left
      ·simp only [Act.put, s0_, s1_, s2_, i64_w, i32_w]
       rfl
      refine val_ (v := ?_) (a' := ?_) 31 48 bz11_37 rfl rfl HT_.out (by kernel_rfl) (by rfl) (fun _ _ _ h => h) ?_ ?_ ?_
      rotate_left
      ·intro w'
       go_simp
       with_reducible rfl
      rotate_left
      ·simp only [Act.put, s0_, s1_, s2_, i64_w, i32_w]
       rfl
      refine take_ (i := 32) (N := some 49) (v := ?_) (a' := ?_) bz11_38 rfl rfl (take_ofW HT_.out HW_.out (by kernel_rfl)) (fun _ _ _ h => h) (Or.inl ⟨by rfl, ?_⟩) hHeld ?_ ?_
      rotate_left
      ·rintro w' ⟨s0, s1, s2, s3, s4, s5, s6, s7, s8, s9, s10, s11, s12⟩
       go_simp
       with_reducible rfl
      rotate_left
      ·simp only [Act.put, s0_, s1_, s2_, i64_w, i32_w]
       rfl
      refine val_ (v := ?_) (a' := ?_) 33 50 bz11_20 rfl rfl HT_.out (by kernel_rfl) (by rfl) (fun _ _ _ h => h) ?_ ?_ ?_
      rotate_left
      ·intro w'
       go_simp
       with_reducible rfl
      rotate_left
      ·simp only [Act.put, s0_, s1_, s2_, i64_w, i32_w]
       rfl
      refine val_ (v := ?_) (a' := ?_) 34 51 bz11_21 rfl rfl HT_.out (by kernel_rfl) (by rfl) (fun _ _ _ h => h) ?_ ?_ ?_
      rotate_left
      ·intro w'
       go_simp
       with_reducible rfl
      rotate_left
      ·simp only [Act.put, s0_, s1_, s2_, i64_w, i32_w]
       rfl
      refine val_ (v := ?_) (a' := ?_) 35 52 bz11_22 rfl rfl HT_.out (by kernel_rfl) (by rfl) (fun _ _ _ h => h) ?_ ?_ ?_
      rotate_left
      ·intro w'
       go_simp
       with_reducible rfl
      rotate_left
      ·simp only [Act.put, s0_, s1_, s2_, i64_w, i32_w]
       rfl
      refine val_ (v := ?_) (a' := ?_) 36 53 bz11_39 rfl rfl HT_.out (by kernel_rfl) (by rfl) (fun _ _ _ h => h) ?_ ?_ ?_
      rotate_left
      ·intro w'
       go_simp
       with_reducible rfl
      rotate_left
      ·simp only [Act.put, s0_, s1_, s2_, i64_w, i32_w]
       rfl
      refine val_ (v := ?_) (a' := ?_) 37 54 bz11_40 rfl rfl HT_.out (by kernel_rfl) (by rfl) (fun _ _ _ h => h) ?_ ?_ ?_
      rotate_left
      ·intro w'
       go_simp
       with_reducible rfl
      rotate_left
      ·simp only [Act.put, s0_, s1_, s2_, i64_w, i32_w]
       rfl
      refine val_ (v := ?_) (a' := ?_) 38 55 bz11_41 rfl rfl HT_.out (by kernel_rfl) (by rfl) (fun _ _ _ h => h) ?_ ?_ ?_
      rotate_left
      ·intro w'
       go_simp
       with_reducible rfl
      rotate_left
      ·simp only [Act.put, s0_, s1_, s2_, i64_w, i32_w]
       rfl
      refine val_ (v := ?_) (a' := ?_) 39 56 bz11_42 rfl rfl HT_.out (by kernel_rfl) (by rfl) (fun _ _ _ h => h) ?_ ?_ ?_
      rotate_left
      ·intro w'
       go_simp
       with_reducible rfl
      rotate_left
      ·simp only [Act.put, s0_, s1_, s2_, i64_w, i32_w]
       rfl
      refine val_ (v := ?_) (a' := ?_) 40 57 bz11_43 rfl rfl HT_.out (by kernel_rfl) (by rfl) (fun _ _ _ h => h) ?_ ?_ ?_
      rotate_left
      ·intro w'
       go_simp
       with_reducible rfl
      rotate_left
      ·simp only [Act.put, s0_, s1_, s2_, i64_w, i32_w]
       rfl
      refine val_ (v := ?_) (a' := ?_) 42 59 bz11_44 rfl rfl HT_.out (by kernel_rfl) (by rfl) (fun _ _ _ h => h) ?_ ?_ ?_
      rotate_left
      ·intro w'
       go_simp
       with_reducible rfl
      rotate_left
      ·simp only [Act.put, s0_, s1_, s2_, i64_w, i32_w]
       rfl
      refine val_ (v := ?_) (a' := ?_) 43 60 bz11_45 rfl rfl HT_.out (by kernel_rfl) (by rfl) (fun _ _ _ h => h) ?_ ?_ ?_
      rotate_left
      ·intro w'
       go_simp
       with_reducible rfl
      rotate_left
      ·simp only [Act.put, s0_, s1_, s2_, i64_w, i32_w]
       rfl
      refine val_ (v := ?_) (a' := ?_) 44 61 bz11_46 rfl rfl HT_.out (by kernel_rfl) (by rfl) (fun _ _ _ h => h) ?_ ?_ ?_
      rotate_left
      ·intro w'
       go_simp
       with_reducible rfl
      rotate_left
      ·simp only [Act.put, s0_, s1_, s2_, i64_w, i32_w]
       rfl
      refine val_ (v := ?_) (a' := ?_) 45 62 bz11_47 rfl rfl HT_.out (by kernel_rfl) (by rfl) (fun _ _ _ h => h) ?_ ?_ ?_
      rotate_left
      ·intro w'
       go_simp
       with_reducible rfl
      rotate_left
      ·simp only [Act.put, s0_, s1_, s2_, i64_w, i32_w]
       rfl
      refine take_ (i := 41) (N := some 58) (v := ?_) (a' := ?_) bz11_48 rfl rfl (take_ofW HT_.out HW_.out (by kernel_rfl)) (fun _ _ _ h => h) (Or.inl ⟨by rfl, ?_⟩) hHeld ?_ ?_
      rotate_left
      ·rintro w' ⟨s0, s1, s2, s3, s4, s5, s6, s7, s8, s9, s10, s11, s12⟩
       go_simp
       with_reducible rfl
      rotate_left
      ·simp only [Act.put, s0_, s1_, s2_, i64_w, i32_w]
       rfl
      refine take_ (i := 46) (N := some 63) (v := ?_) (a' := ?_) bz11_49 rfl rfl (take_ofW HT_.out HW_.out (by kernel_rfl)) (fun _ _ _ h => h) (Or.inl ⟨by rfl, ?_⟩) hHeld ?_ ?_
      rotate_left
      ·rintro w' ⟨s0, s1, s2, s3, s4, s5, s6, s7, s8, s9, s10, s11, s12⟩
       go_simp
       with_reducible rfl
      rotate_left
      ·simp only [Act.put, s0_, s1_, s2_, i64_w, i32_w]
       rfl
      refine val_ (v := ?_) (a' := ?_) 47 64 bz11_50 rfl rfl HT_.out (by kernel_rfl) (by rfl) (fun _ _ _ h => h) ?_ ?_ ?_
      rotate_left
      ·intro w'
       go_simp
       with_reducible rfl
      rotate_left
      ·simp only [Act.put, s0_, s1_, s2_, i64_w, i32_w]
       rfl
      refine take_ (i := 48) (N := some 65) (v := ?_) (a' := ?_) bz11_51 rfl rfl (take_ofW HT_.out HW_.out (by kernel_rfl)) (fun _ _ _ h => h) (Or.inl ⟨by rfl, ?_⟩) hHeld ?_ ?_
      rotate_left
      ·rintro w' ⟨s0, s1, s2, s3, s4, s5, s6, s7, s8, s9, s10, s11, s12⟩
       go_simp
       with_reducible rfl
      rotate_left
      ·simp only [Act.put, s0_, s1_, s2_, i64_w, i32_w]
       rfl
      refine val_ (v := ?_) (a' := ?_) 49 66 bz11_52 rfl rfl HT_.out (by kernel_rfl) (by rfl) (fun _ _ _ h => h) ?_ ?_ ?_
      rotate_left
      ·intro w'
       go_simp
       with_reducible rfl
      rotate_left
      ·simp only [Act.put, s0_, s1_, s2_, i64_w, i32_w]
       rfl
      refine val_ (v := ?_) (a' := ?_) 50 67 bz11_23 rfl rfl HT_.out (by kernel_rfl) (by rfl) (fun _ _ _ h => h) ?_ ?_ ?_
      rotate_left
      ·intro w'
       go_simp
       with_reducible rfl
      rotate_left
      ·simp only [Act.put, s0_, s1_, s2_, i64_w, i32_w]
       rfl
      refine val_ (v := ?_) (a' := ?_) 51 68 bz11_24 rfl rfl HT_.out (by kernel_rfl) (by rfl) (fun _ _ _ h => h) ?_ ?_ ?_
      rotate_left
      ·intro w'
       go_simp
       with_reducible rfl
      rotate_left
      ·simp only [Act.put, s0_, s1_, s2_, i64_w, i32_w]
       rfl
      refine done_ (done_of HT_.out (by kernel_rfl)) ?_
      try go_wp2
      go_roundg k1
      case measure => have := HK1.out; omega
      case rel => exact ⟨(wrap64 (x12_1 + 1)), (by first | rfl | (simp; done) | (simp [*]; done)), H', ⟨by have := HK1.out; omega⟩, ⟨by repeat (first | exact HB.out | apply below_alloc | apply pw_below_drewN | apply below_drew1)⟩⟩
     rw [if_pos c25] at H
     have c25b0 : decide ((rd (rd_L5 l1 x12_1) 0) ≤ (rd (rd_L5 l1 (ji21)) 0)) = true := decide_eq_true c25
     clear c25
     obtain rfl := Option.some.inj H
     have p214 : 0 ≤ (x12_1 : Int) := of_decide_eq_true (by assumption)
     have q214 : x12_1 < (l1.length : Int) := of_decide_eq_true (by assumption)
     obtain ⟨ad214, A214_0, c214_0, e214, hx214_0, hl214_0, hi214_0⟩ := at_L5 HR1.out x12_1 p214 q214
     cases e214
     replace hx214_0 := (HB.out.cell (World.block_lt_of_cell? w _ hx214_0)).trans hx214_0
     have HR214_0 := Aside0.mk hi214_0
     have HC214_0 := Aside0.mk hl214_0
     clear hi214_0 hl214_0
     replace p214 := eq_true p214
     replace q214 := eq_true q214
     try go_wp2
     have n0_ := Aside0.mk (below_drew1 HB.out)
     clear HB
     have HB := n0_
     clear n0_
     have p216 : 0 ≤ (0 : Int) := (by omega)
     have q216 : 0 < ((rd_L5 l1 x12_1).length : Int) := of_decide_eq_true (by assumption)
     obtain ⟨ad216, e216, hx216_0⟩ := Kd.at_int HR214_0.out 0 p216 q216
     have hw216_0 := hx216_0
     (try rw [show ((0 : Int)).toNat = 0 from rfl] at hw216_0)
     (try rw [show 0 * 1 = 0 from rfl] at hw216_0)
     (try rw [Addr.add_zero'] at hw216_0)
     cases e216
     have qi216 : (0 < (rd_L5 l1 x12_1).length) = True := eq_true (by omega)
     (try rw [show ((0 : Int)).toNat = 0 from rfl] at hx216_0)
     (try rw [Addr.add_zero'] at hx216_0)
     replace hx216_0 := (HB.out.cell (World.block_lt_of_cell? w _ hx216_0)).trans hx216_0
     replace p216 := eq_true p216
     replace q216 := eq_true q216
     have p217 : 0 ≤ (1 : Int) := (by omega)
     have q217 : 1 < ((rd_L5 l1 x12_1).length : Int) := of_decide_eq_true (by assumption)
     obtain ⟨ad217, e217, hx217_0⟩ := Kd.at_int HR214_0.out 1 p217 q217
     have hw217_0 := hx217_0
     (try rw [show ((1 : Int)).toNat = 1 from rfl] at hw217_0)
     (try rw [show 1 * 1 = 1 from rfl] at hw217_0)
     (try simp only [Nat.reduceMul, Nat.reduceEqDiff, Go.Addr.add, ↓reduceIte] at hw217_0)
     obtain rfl : ad216 = ad217 := (by injection e217)
     (try simp only [show (1 : Int).toNat = 1 from rfl, Nat.reduceMul, Nat.reduceEqDiff, Go.Addr.add, ↓reduceIte] at hx217_0)
     have qi217 : (1 < (rd_L5 l1 x12_1).length) = True := eq_true (by omega)
     (try rw [show ((1 : Int)).toNat = 1 from rfl] at hx217_0)
     replace hx217_0 := (HB.out.cell (World.block_lt_of_cell? w _ hx217_0)).trans hx217_0
     replace p217 := eq_true p217
     replace q217 := eq_true q217
     have p218 : 0 ≤ (0 : Int) := (by omega)
     have q218 : 0 < ((rd_L5 l1 x12_1).length : Int) := of_decide_eq_true (by assumption)
     obtain ⟨ad218, e218, hx218_0⟩ := Kd.at_int HR214_0.out 0 p218 q218
     have hw218_0 := hx218_0
     (try rw [show ((0 : Int)).toNat = 0 from rfl] at hw218_0)
     (try rw [show 0 * 1 = 0 from rfl] at hw218_0)
     (try rw [Addr.add_zero'] at hw218_0)
     obtain rfl : ad216 = ad218 := (by injection e218)
     have qi218 : (0 < (rd_L5 l1 x12_1).length) = True := eq_true (by omega)
     (try rw [show ((0 : Int)).toNat = 0 from rfl] at hx218_0)
     (try rw [Addr.add_zero'] at hx218_0)
     replace hx218_0 := (HB.out.cell (World.block_lt_of_cell? w _ hx218_0)).trans hx218_0
     replace p218 := eq_true p218
     replace q218 := eq_true q218
     have p219 : 0 ≤ ((rd (rd_L5 l1 x12_1) 0) : Int) := of_decide_eq_true (by assumption)
     have q219 : (rd (rd_L5 l1 x12_1) 0) < (l0.length : Int) := of_decide_eq_true (by assumption)
     obtain ⟨ad219, e219, hx219_0, hx219_1, hx219_2⟩ := at_T103 HR0.out (rd (rd_L5 l1 x12_1) 0) p219 q219
     have hw219_2 := hx219_2
     have hw219_1 := hx219_1
     have hw219_0 := hx219_0
     cases e219
     replace hx219_0 := (HB.out.cell (World.block_lt_of_cell? w _ hx219_0)).trans hx219_0
     replace hx219_1 := (HB.out.cell (World.block_lt_of_cell? w _ hx219_1)).trans hx219_1
     replace hx219_2 := (HB.out.cell (World.block_lt_of_cell? w _ hx219_2)).trans hx219_2
     replace p219 := eq_true p219
     replace q219 := eq_true q219
     have p220 : 0 ≤ (1 : Int) := (by omega)
     have q220 : 1 < ((rd_L5 l1 x12_1).length : Int) := of_decide_eq_true (by assumption)
     obtain ⟨ad220, e220, hx220_0⟩ := Kd.at_int HR214_0.out 1 p220 q220
     have hw220_0 := hx220_0
     (try rw [show ((1 : Int)).toNat = 1 from rfl] at hw220_0)
     (try rw [show 1 * 1 = 1 from rfl] at hw220_0)
     (try simp only [Nat.reduceMul, Nat.reduceEqDiff, Go.Addr.add, ↓reduceIte] at hw220_0)
     obtain rfl : ad216 = ad220 := (by injection e220)
     (try simp only [show (1 : Int).toNat = 1 from rfl, Nat.reduceMul, Nat.reduceEqDiff, Go.Addr.add, ↓reduceIte] at hx220_0)
     have qi220 : (1 < (rd_L5 l1 x12_1).length) = True := eq_true (by omega)
     (try rw [show ((1 : Int)).toNat = 1 from rfl] at hx220_0)
     replace hx220_0 := (HB.out.cell (World.block_lt_of_cell? w _ hx220_0)).trans hx220_0
     replace p220 := eq_true p220
     replace q220 := eq_true q220
     have p221 : 0 ≤ ((rd (rd_L5 l1 x12_1) 1) : Int) := of_decide_eq_true (by assumption)
     have q221 : (rd (rd_L5 l1 x12_1) 1) < (l0.length : Int) := of_decide_eq_true (by assumption)
     obtain ⟨ad221, e221, hx221_0, hx221_1, hx221_2⟩ := at_T103 HR0.out (rd (rd_L5 l1 x12_1) 1) p221 q221
     have hw221_2 := hx221_2
     have hw221_1 := hx221_1
     have hw221_0 := hx221_0
     obtain rfl : ad219 = ad221 := (by injection e221)
     replace hx221_0 := (HB.out.cell (World.block_lt_of_cell? w _ hx221_0)).trans hx221_0
     replace hx221_1 := (HB.out.cell (World.block_lt_of_cell? w _ hx221_1)).trans hx221_1
     replace hx221_2 := (HB.out.cell (World.block_lt_of_cell? w _ hx221_2)).trans hx221_2
     replace p221 := eq_true p221
     replace q221 := eq_true q221
     have p222 : 0 ≤ (0 : Int) := (by omega)
     have q222 : 0 < ((rd_L5 l1 x12_1).length : Int) := of_decide_eq_true (by assumption)
     obtain ⟨ad222, e222, hx222_0⟩ := Kd.at_int HR214_0.out 0 p222 q222
     have hw222_0 := hx222_0
     (try rw [show ((0 : Int)).toNat = 0 from rfl] at hw222_0)
     (try rw [show 0 * 1 = 0 from rfl] at hw222_0)
     (try rw [Addr.add_zero'] at hw222_0)
     obtain rfl : ad216 = ad222 := (by injection e222)
     have qi222 : (0 < (rd_L5 l1 x12_1).length) = True := eq_true (by omega)
     (try rw [show ((0 : Int)).toNat = 0 from rfl] at hx222_0)
     (try rw [Addr.add_zero'] at hx222_0)
     replace hx222_0 := (HB.out.cell (World.block_lt_of_cell? w _ hx222_0)).trans hx222_0
     replace p222 := eq_true p222
     replace q222 := eq_true q222
     have p223 : 0 ≤ ((ji21) : Int) := of_decide_eq_true (by assumption)
     have q223 : (ji21) < (l1.length : Int) := of_decide_eq_true (by assumption)
     obtain ⟨ad223, A223_0, c223_0, e223, hx223_0, hl223_0, hi223_0⟩ := at_L5 HR1.out (ji21) p223 q223
     have hw223_0 := hx223_0
     obtain rfl : ad214 = ad223 := (by injection e223)
     replace hx223_0 := (HB.out.cell (World.block_lt_of_cell? w _ hx223_0)).trans hx223_0
     have HR223_0 := Aside0.mk hi223_0
     have HC223_0 := Aside0.mk hl223_0
     clear hi223_0 hl223_0
     replace p223 := eq_true p223
     replace q223 := eq_true q223
     have p224 : 0 ≤ (0 : Int) := (by omega)
     have q224 : 0 < ((rd_L5 l1 (ji21)).length : Int) := of_decide_eq_true (by assumption)
     obtain ⟨ad224, e224, hx224_0⟩ := Kd.at_int HR223_0.out 0 p224 q224
     have hw224_0 := hx224_0
     (try rw [show ((0 : Int)).toNat = 0 from rfl] at hw224_0)
     (try rw [show 0 * 1 = 0 from rfl] at hw224_0)
     (try rw [Addr.add_zero'] at hw224_0)
     cases e224
     have qi224 : (0 < (rd_L5 l1 (ji21)).length) = True := eq_true (by omega)
     (try rw [show ((0 : Int)).toNat = 0 from rfl] at hx224_0)
     (try rw [Addr.add_zero'] at hx224_0)
     replace hx224_0 := (HB.out.cell (World.block_lt_of_cell? w _ hx224_0)).trans hx224_0
     replace p224 := eq_true p224
     replace q224 := eq_true q224
     refine start_ (n := 52) (S := fun w' => w'.cell? ad216 = some (.int .i64 (rd (rd_L5 l1 x12_1) 0)) ∧ w'.cell? ⟨ad216.block, ad216.off + 1, none⟩ = some (.int .i64 (rd (rd_L5 l1 x12_1) 1)) ∧ w'.cell? ad216 = some (.int .i64 (rd (rd_L5 l1 x12_1) 0)) ∧ w'.cell? (ad219.add (((rd (rd_L5 l1 x12_1) 0)).toNat * 3)) = some (.string ((rd_T103 l0 (rd (rd_L5 l1 x12_1) 0)).f0)) ∧ w'.cell? ⟨(ad219.add (((rd (rd_L5 l1 x12_1) 0)).toNat * 3)).block, (ad219.add (((rd (rd_L5 l1 x12_1) 0)).toNat * 3)).off + 1, none⟩ = some (.int .i64 ((rd_T103 l0 (rd (rd_L5 l1 x12_1) 0)).f1)) ∧ w'.cell? ⟨(ad219.add (((rd (rd_L5 l1 x12_1) 0)).toNat * 3)).block, (ad219.add (((rd (rd_L5 l1 x12_1) 0)).toNat * 3)).off + 2, none⟩ = some (.int .i64 ((rd_T103 l0 (rd (rd_L5 l1 x12_1) 0)).f2)) ∧ w'.cell? ⟨ad216.block, ad216.off + 1, none⟩ = some (.int .i64 (rd (rd_L5 l1 x12_1) 1)) ∧ w'.cell? (ad219.add (((rd (rd_L5 l1 x12_1) 1)).toNat * 3)) = some (.string ((rd_T103 l0 (rd (rd_L5 l1 x12_1) 1)).f0)) ∧ w'.cell? ⟨(ad219.add (((rd (rd_L5 l1 x12_1) 1)).toNat * 3)).block, (ad219.add (((rd (rd_L5 l1 x12_1) 1)).toNat * 3)).off + 1, none⟩ = some (.int .i64 ((rd_T103 l0 (rd (rd_L5 l1 x12_1) 1)).f1)) ∧ w'.cell? ⟨(ad219.add (((rd (rd_L5 l1 x12_1) 1)).toNat * 3)).block, (ad219.add (((rd (rd_L5 l1 x12_1) 1)).toNat * 3)).off + 2, none⟩ = some (.int .i64 ((rd_T103 l0 (rd (rd_L5 l1 x12_1) 1)).f2)) ∧ w'.cell? ad216 = some (.int .i64 (rd (rd_L5 l1 x12_1) 0)) ∧ w'.cell? (ad214.add ((ji21)).toNat) = some (.slice (some ad224) (rd_L5 l1 (ji21)).length c223_0) ∧ w'.cell? ad224 = some (.int .i64 (rd (rd_L5 l1 (ji21)) 0))) (ds := []) bz11_0 (by kernel_rfl) rfl rfl ⟨((HB.out.cell (World.block_lt_of_cell? w _ hw216_0)).trans hw216_0), ((HB.out.cell (World.block_lt_of_cell? w _ hw217_0)).trans hw217_0), ((HB.out.cell (World.block_lt_of_cell? w _ hw218_0)).trans hw218_0), ((HB.out.cell (World.block_lt_of_cell? w _ hw219_0)).trans hw219_0), ((HB.out.cell (World.block_lt_of_cell? w _ hw219_1)).trans hw219_1), ((HB.out.cell (World.block_lt_of_cell? w _ hw219_2)).trans hw219_2), ((HB.out.cell (World.block_lt_of_cell? w _ hw220_0)).trans hw220_0), ((HB.out.cell (World.block_lt_of_cell? w _ hw221_0)).trans hw221_0), ((HB.out.cell (World.block_lt_of_cell? w _ hw221_1)).trans hw221_1), ((HB.out.cell (World.block_lt_of_cell? w _ hw221_2)).trans hw221_2), ((HB.out.cell (World.block_lt_of_cell? w _ hw222_0)).trans hw222_0), ((HB.out.cell (World.block_lt_of_cell? w _ hw223_0)).trans hw223_0), ((HB.out.cell (World.block_lt_of_cell? w _ hw224_0)).trans hw224_0)⟩ (fun hHeld => ?_); refine with_tabW impl_pairsOk.tab6 impl_pairsOk.bits6 (fun HT_ HW_ => ?_)
     generalize wr.drew = w26 at HB HR223_0 hx216_0 hx217_0 hx218_0 hx219_0 hx219_1 hx219_2 hx220_0 hx221_0 hx221_1 hx221_2 hx222_0 hx223_0 hx224_0 hHeld ⊢
     refine val_ (v := ?_) (a' := ?_) 0 17 bz11_1 rfl rfl HT_.out (by kernel_rfl) (by rfl) (fun _ _ _ h => h) ?_ ?_ ?_
     rotate_left
     ·intro w'
      go_simp
      with_reducible rfl
     rotate_left
     ·simp only [Act.put, s0_, s1_, s2_, i64_w, i32_w]
      rfl
     refine val_ (v := ?_) (a' := ?_) 1 18 bz11_2 rfl rfl HT_.out (by kernel_rfl) (by rfl) (fun _ _ _ h => h) ?_ ?_ ?_
     rotate_left
     ·intro w'
      go_simp
      with_reducible rfl
     rotate_left
     ·simp only [Act.put, s0_, s1_, s2_, i64_w, i32_w]
      rfl
     refine val_ (v := ?_) (a' := ?_) 2 19 bz11_3 rfl rfl HT_.out (by kernel_rfl) (by rfl) (fun _ _ _ h => h) ?_ ?_ ?_
     rotate_left
     ·intro w'
      go_simp
      with_reducible rfl
     rotate_left
     ·simp only [Act.put, s0_, s1_, s2_, i64_w, i32_w]
      rfl
     refine val_ (v := ?_) (a' := ?_) 3 20 bz11_4 rfl rfl HT_.out (by kernel_rfl) (by rfl) (fun _ _ _ h => h) ?_ ?_ ?_
     rotate_left
     ·intro w'
      go_simp
      with_reducible rfl
     rotate_left
     ·simp only [Act.put, s0_, s1_, s2_, i64_w, i32_w]
      rfl
     refine val_ (v := ?_) (a' := ?_) 4 21 bz11_5 rfl rfl HT_.out (by kernel_rfl) (by rfl) (fun _ _ _ h => h) ?_ ?_ ?_
     rotate_left
     ·intro w'
      go_simp
      with_reducible rfl
     rotate_left
     ·simp only [Act.put, s0_, s1_, s2_, i64_w, i32_w]
      rfl
     refine val_ (v := ?_) (a' := ?_) 5 22 bz11_6 rfl rfl HT_.out (by kernel_rfl) (by rfl) (fun _ _ _ h => h) ?_ ?_ ?_
     rotate_left
     ·intro w'
      go_simp
      with_reducible rfl
     rotate_left
     ·simp only [Act.put, s0_, s1_, s2_, i64_w, i32_w]
      rfl
     refine one_ (i := 6) (N := some 23) bz11_7 rfl rfl (one_of HT_.out (by kernel_rfl)) (by decide) (fun K hK => ?_)
     refine goes_ Try.func172 (by kernel_rfl) rfl #[.slice (some ad219) l0.length c0, .slice (some ad216) (rd_L5 l1 x12_1).length c214_0] (by rfl) rfl rfl (by (try simp only [List.map_toArray, List.map_cons, List.map_nil]); first | done | rfl) ?_
     with_reducible refine (impl_composedOk.calls _ _ l0 _ _ (rd_L5 l1 x12_1) true _ ?side1 ?side2 ?side3 ?side4 A8.out).mono ?_
     (case side1 => exact (Kd.C_below HR0.out HB.out))
     (case side2 => exact HC0.out)
     (case side3 => exact (Kd.C_below HR214_0.out HB.out))
     (case side4 => exact HC214_0.out)
     rintro e w27 ⟨rfl, hb⟩
     refine ⟨_, rfl, ?_⟩
     have n0_ := Aside0.mk (below_step (by repeat (first | exact HB.out | apply below_alloc | apply pw_below_drewN | apply below_drew1)) hb)
     clear HB
     have HB := n0_
     clear n0_
     (try clear hb)
     (try clear hb2)
     (try clear hk)
     (try clear hi)
     refine hK.out _ _ ⟨((HB.out.cell (World.block_lt_of_cell? w _ hw216_0)).trans hw216_0), ((HB.out.cell (World.block_lt_of_cell? w _ hw217_0)).trans hw217_0), ((HB.out.cell (World.block_lt_of_cell? w _ hw218_0)).trans hw218_0), ((HB.out.cell (World.block_lt_of_cell? w _ hw219_0)).trans hw219_0), ((HB.out.cell (World.block_lt_of_cell? w _ hw219_1)).trans hw219_1), ((HB.out.cell (World.block_lt_of_cell? w _ hw219_2)).trans hw219_2), ((HB.out.cell (World.block_lt_of_cell? w _ hw220_0)).trans hw220_0), ((HB.out.cell (World.block_lt_of_cell? w _ hw221_0)).trans hw221_0), ((HB.out.cell (World.block_lt_of_cell? w _ hw221_1)).trans hw221_1), ((HB.out.cell (World.block_lt_of_cell? w _ hw221_2)).trans hw221_2), ((HB.out.cell (World.block_lt_of_cell? w _ hw222_0)).trans hw222_0), ((HB.out.cell (World.block_lt_of_cell? w _ hw223_0)).trans hw223_0), ((HB.out.cell (World.block_lt_of_cell? w _ hw224_0)).trans hw224_0)⟩ (fun hHeld => ?_)
     clear hK K
     refine norm_ (a' := ?_) ?_ ?_
     rotate_left
     ·show Act.put _ (some 23) _ = _
      simp only [Act.put, s0_, s1_, s2_, i64_w, i32_w]
      rfl
     refine val_ (v := ?_) (a' := ?_) 7 24 bz11_8 rfl rfl HT_.out (by kernel_rfl) (by rfl) (fun _ _ _ h => h) ?_ ?_ ?_
     rotate_left
     ·intro w'
      go_simp
      with_reducible rfl
     rotate_left
     ·simp only [Act.put, s0_, s1_, s2_, i64_w, i32_w]
      rfl
     refine val_ (v := ?_) (a' := ?_) 8 25 bz11_9 rfl rfl HT_.out (by kernel_rfl) (by rfl) (fun _ _ _ h => h) ?_ ?_ ?_
     rotate_left
     ·intro w'
      go_simp
      with_reducible rfl
     rotate_left
     ·simp only [Act.put, s0_, s1_, s2_, i64_w, i32_w]
      rfl
     refine val_ (v := ?_) (a' := ?_) 9 26 bz11_10 rfl rfl HT_.out (by kernel_rfl) (by rfl) (fun _ _ _ h => h) ?_ ?_ ?_
     rotate_left
     ·intro w'
      go_simp
      with_reducible rfl
     rotate_left
     ·simp only [Act.put, s0_, s1_, s2_, i64_w, i32_w]
      rfl
     refine val_ (v := ?_) (a' := ?_) 10 27 bz11_11 rfl rfl HT_.out (by kernel_rfl) (by rfl) (fun _ _ _ h => h) ?_ ?_ ?_
     rotate_left
     ·intro w'
      go_simp
      with_reducible rfl
     rotate_left
     ·simp only [Act.put, s0_, s1_, s2_, i64_w, i32_w]
      rfl
     refine val_ (v := ?_) (a' := ?_) 11 28 bz11_12 rfl rfl HT_.out (by kernel_rfl) (by rfl) (fun _ _ _ h => h) ?_ ?_ ?_
     rotate_left
     ·intro w'
      go_simp
      with_reducible rfl
     rotate_left
     ·simp only [Act.put, s0_, s1_, s2_, i64_w, i32_w]
      rfl
     refine val_ (v := ?_) (a' := ?_) 13 30 bz11_13 rfl rfl HT_.out (by kernel_rfl) (by rfl) (fun _ _ _ h => h) ?_ ?_ ?_
     rotate_left
     ·intro w'
      go_simp
      with_reducible rfl
     rotate_left
     ·simp only [Act.put, s0_, s1_, s2_, i64_w, i32_w]
      rfl
     refine val_ (v := ?_) (a' := ?_) 14 31 bz11_14 rfl rfl HT_.out (by kernel_rfl) (by rfl) (fun _ _ _ h => h) ?_ ?_ ?_
     rotate_left
     ·intro w'
      go_simp
      with_reducible rfl
     rotate_left
     ·simp only [Act.put, s0_, s1_, s2_, i64_w, i32_w]
      rfl
     refine take_ (i := 12) (N := some 29) (v := ?_) (a' := ?_) bz11_15 rfl rfl (take_ofW HT_.out HW_.out (by kernel_rfl)) (fun _ _ _ h => h) (Or.inl ⟨by rfl, ?_⟩) hHeld ?_ ?_
     rotate_left
     ·rintro w' ⟨s0, s1, s2, s3, s4, s5, s6, s7, s8, s9, s10, s11, s12⟩
      go_simp
      with_reducible rfl
     rotate_left
     ·simp only [Act.put, s0_, s1_, s2_, i64_w, i32_w]
      rfl
     refine take_ (i := 15) (N := some 32) (v := ?_) (a' := ?_) bz11_16 rfl rfl (take_ofW HT_.out HW_.out (by kernel_rfl)) (fun _ _ _ h => h) (Or.inl ⟨by rfl, ?_⟩) hHeld ?_ ?_
     rotate_left
     ·rintro w' ⟨s0, s1, s2, s3, s4, s5, s6, s7, s8, s9, s10, s11, s12⟩
      go_simp
      with_reducible rfl
     rotate_left
     ·simp only [Act.put, s0_, s1_, s2_, i64_w, i32_w]
      rfl
     refine val_ (v := ?_) (a' := ?_) 16 33 bz11_17 rfl rfl HT_.out (by kernel_rfl) (by rfl) (fun _ _ _ h => h) ?_ ?_ ?_
     rotate_left
     ·intro w'
      go_simp
      with_reducible rfl
     rotate_left
     ·simp only [Act.put, s0_, s1_, s2_, i64_w, i32_w]
      rfl
     refine val_ (v := ?_) (a' := ?_) 17 34 bz11_18 rfl rfl HT_.out (by kernel_rfl) (by rfl) (fun _ _ _ h => h) ?_ ?_ ?_
     rotate_left
     ·intro w'
      go_simp
      with_reducible rfl
     rotate_left
     ·simp only [Act.put, s0_, s1_, s2_, i64_w, i32_w]
      rfl
     refine val_ (v := ?_) (a' := ?_) 18 35 bz11_19 rfl rfl HT_.out (by kernel_rfl) (by rfl) (fun _ _ _ h => h) ?_ ?_ ?_
     rotate_left
     ·intro w'
      go_simp
      with_reducible rfl
     rotate_left
     ·simp only [Act.put, s0_, s1_, s2_, i64_w, i32_w]
      rfl
     refine val_ (v := ?_) (a' := ?_) 19 36 bz11_25 rfl rfl HT_.out (by kernel_rfl) (by rfl) (fun _ _ _ h => h) ?_ ?_ ?_
     rotate_left
     ·intro w'
      go_simp
      with_reducible rfl
     rotate_left
     ·simp only [Act.put, s0_, s1_, s2_, i64_w, i32_w]
      rfl
     refine val_ (v := ?_) (a' := ?_) 20 37 bz11_26 rfl rfl HT_.out (by kernel_rfl) (by rfl) (fun _ _ _ h => h) ?_ ?_ ?_
     rotate_left
     ·intro w'
      go_simp
      with_reducible rfl
     rotate_left
     ·simp only [Act.put, s0_, s1_, s2_, i64_w, i32_w]
      rfl
     refine val_ (v := ?_) (a' := ?_) 21 38 bz11_27 rfl rfl HT_.out (by kernel_rfl) (by rfl) (fun _ _ _ h => h) ?_ ?_ ?_
     rotate_left
     ·intro w'
      go_simp
      with_reducible rfl
     rotate_left
     ·simp only [Act.put, s0_, s1_, s2_, i64_w, i32_w]
      rfl
     refine val_ (v := ?_) (a' := ?_) 26 43 bz11_28 rfl rfl HT_.out (by kernel_rfl) (by rfl) (fun _ _ _ h => h) ?_ ?_ ?_
     rotate_left
     ·intro w'
      go_simp
      with_reducible rfl
     rotate_left
     ·simp only [Act.put, s0_, s1_, s2_, i64_w, i32_w]
      rfl
     refine val_ (v := ?_) (a' := ?_) 27 44 bz11_29 rfl rfl HT_.out (by kernel_rfl) (by rfl) (fun _ _ _ h => h) ?_ ?_ ?_
     rotate_left
     ·intro w'
      go_simp
      with_reducible rfl
     rotate_left
     ·simp only [Act.put, s0_, s1_, s2_, i64_w, i32_w]
      rfl
     refine val_ (v := ?_) (a' := ?_) 28 45 bz11_30 rfl rfl HT_.out (by kernel_rfl) (by rfl) (fun _ _ _ h => h) ?_ ?_ ?_
     rotate_left
     ·intro w'
      go_simp
      with_reducible rfl
     rotate_left
     ·simp only [Act.put, s0_, s1_, s2_, i64_w, i32_w]
      rfl
     refine take_ (i := 22) (N := some 39) (v := ?_) (a' := ?_) bz11_31 rfl rfl (take_ofW HT_.out HW_.out (by kernel_rfl)) (fun _ _ _ h => h) (Or.inl ⟨by rfl, ?_⟩) hHeld ?_ ?_
     rotate_left
     ·rintro w' ⟨s0, s1, s2, s3, s4, s5, s6, s7, s8, s9, s10, s11, s12⟩
      go_simp
      with_reducible rfl
     rotate_left
     ·simp only [Act.put, s0_, s1_, s2_, i64_w, i32_w]
      rfl
     refine val_ (v := ?_) (a' := ?_) 23 40 bz11_32 rfl rfl HT_.out (by kernel_rfl) (by rfl) (fun _ _ _ h => h) ?_ ?_ ?_
     rotate_left
     ·intro w'
      go_simp
      with_reducible rfl
     rotate_left
     ·simp only [Act.put, s0_, s1_, s2_, i64_w, i32_w]
      rfl
     refine val_ (v := ?_) (a' := ?_) 24 41 bz11_33 rfl rfl HT_.out (by kernel_rfl) (by rfl) (fun _ _ _ h => h) ?_ ?_ ?_
     rotate_left
     ·intro w'
      go_simp
      with_reducible rfl
     rotate_left
     ·simp only [Act.put, s0_, s1_, s2_, i64_w, i32_w]
      rfl
     refine take_ (i := 25) (N := some 42) (v := ?_) (a' := ?_) bz11_34 rfl rfl (take_ofW HT_.out HW_.out (by kernel_rfl)) (fun _ _ _ h => h) (Or.inl ⟨by rfl, ?_⟩) hHeld ?_ ?_
     rotate_left
     ·rintro w' ⟨s0, s1, s2, s3, s4, s5, s6, s7, s8, s9, s10, s11, s12⟩
      go_simp
      with_reducible rfl
     rotate_left
     ·simp only [Act.put, s0_, s1_, s2_, i64_w, i32_w]
      rfl
     refine take_ (i := 29) (N := some 46) (v := ?_) (a' := ?_) bz11_35 rfl rfl (take_ofW HT_.out HW_.out (by kernel_rfl)) (fun _ _ _ h => h) (Or.inl ⟨by rfl, ?_⟩) hHeld ?_ ?_
     rotate_left
     ·rintro w' ⟨s0, s1, s2, s3, s4, s5, s6, s7, s8, s9, s10, s11, s12⟩
      go_simp
      with_reducible rfl
     rotate_left
     ·simp only [Act.put, s0_, s1_, s2_, i64_w, i32_w]
      rfl
     refine val_ (v := ?_) (a' := ?_) 30 47 bz11_36 rfl rfl HT_.out (by kernel_rfl) (by rfl) (fun _ _ _ h => h) ?_ ?_ ?_
     rotate_left
     ·intro w'
      go_simp
      with_reducible rfl
     rotate_left
     ·simp only [Act.put, s0_, s1_, s2_, i64_w, i32_w]
      rfl
     refine val_ (v := ?_) (a' := ?_) 31 48 bz11_37 rfl rfl HT_.out (by kernel_rfl) (by rfl) (fun _ _ _ h => h) ?_ ?_ ?_
     rotate_left
     ·intro w'
      go_simp
      with_reducible rfl
     rotate_left
     ·simp only [Act.put, s0_, s1_, s2_, i64_w, i32_w]
      rfl
     refine take_ (i := 32) (N := some 49) (v := ?_) (a' := ?_) bz11_38 rfl rfl (take_ofW HT_.out HW_.out (by kernel_rfl)) (fun _ _ _ h => h) (Or.inl ⟨by rfl, ?_⟩) hHeld ?_ ?_
     rotate_left
     ·rintro w' ⟨s0, s1, s2, s3, s4, s5, s6, s7, s8, s9, s10, s11, s12⟩
      go_simp
      with_reducible rfl
     rotate_left
     ·simp only [Act.put, s0_, s1_, s2_, i64_w, i32_w]
      rfl
     refine val_ (v := ?_) (a' := ?_) 33 50 bz11_20 rfl rfl HT_.out (by kernel_rfl) (by rfl) (fun _ _ _ h => h) ?_ ?_ ?_
     rotate_left
     ·intro w'
      go_simp
      with_reducible rfl
     rotate_left
     ·simp only [Act.put, s0_, s1_, s2_, i64_w, i32_w]
      rfl
     refine val_ (v := ?_) (a' := ?_) 34 51 bz11_21 rfl rfl HT_.out (by kernel_rfl) (by rfl) (fun _ _ _ h => h) ?_ ?_ ?_
     rotate_left
     ·intro w'
      go_simp
      with_reducible rfl
     rotate_left
     ·simp only [Act.put, s0_, s1_, s2_, i64_w, i32_w]
      rfl
     refine val_ (v := ?_) (a' := ?_) 35 52 bz11_22 rfl rfl HT_.out (by kernel_rfl) (by rfl) (fun _ _ _ h => h) ?_ ?_ ?_
     rotate_left
     ·intro w'
      go_simp
      with_reducible rfl
     rotate_left
     ·simp only [Act.put, s0_, s1_, s2_, i64_w, i32_w]
      rfl
     refine val_ (v := ?_) (a' := ?_) 36 53 bz11_39 rfl rfl HT_.out (by kernel_rfl) (by rfl) (fun _ _ _ h => h) ?_ ?_ ?_
     rotate_left
     ·intro w'
      go_simp
      with_reducible rfl
     rotate_left
     ·simp only [Act.put, s0_, s1_, s2_, i64_w, i32_w]
      rfl
     refine val_ (v := ?_) (a' := ?_) 37 54 bz11_40 rfl rfl HT_.out (by kernel_rfl) (by rfl) (fun _ _ _ h => h) ?_ ?_ ?_
     rotate_left
     ·intro w'
      go_simp
      with_reducible rfl
     rotate_left
     ·simp only [Act.put, s0_, s1_, s2_, i64_w, i32_w]
      rfl
     refine val_ (v := ?_) (a' := ?_) 38 55 bz11_41 rfl rfl HT_.out (by kernel_rfl) (by rfl) (fun _ _ _ h => h) ?_ ?_ ?_
     rotate_left
     ·intro w'
      go_simp
      with_reducible rfl
     rotate_left
     ·simp only [Act.put, s0_, s1_, s2_, i64_w, i32_w]
      rfl
     refine val_ (v := ?_) (a' := ?_) 39 56 bz11_42 rfl rfl HT_.out (by kernel_rfl) (by rfl) (fun _ _ _ h => h) ?_ ?_ ?_
     rotate_left
     ·intro w'
      go_simp
      with_reducible rfl
     rotate_left
     ·simp only [Act.put, s0_, s1_, s2_, i64_w, i32_w]
      rfl
     refine val_ (v := ?_) (a' := ?_) 40 57 bz11_43 rfl rfl HT_.out (by kernel_rfl) (by rfl) (fun _ _ _ h => h) ?_ ?_ ?_
     rotate_left
     ·intro w'
      go_simp
      with_reducible rfl
     rotate_left
     ·simp only [Act.put, s0_, s1_, s2_, i64_w, i32_w]
      rfl
     refine val_ (v := ?_) (a' := ?_) 42 59 bz11_44 rfl rfl HT_.out (by kernel_rfl) (by rfl) (fun _ _ _ h => h) ?_ ?_ ?_
     rotate_left
     ·intro w'
      go_simp
      with_reducible rfl
     rotate_left
     ·simp only [Act.put, s0_, s1_, s2_, i64_w, i32_w]
      rfl
     refine val_ (v := ?_) (a' := ?_) 43 60 bz11_45 rfl rfl HT_.out (by kernel_rfl) (by rfl) (fun _ _ _ h => h) ?_ ?_ ?_
     rotate_left
     ·intro w'
      go_simp
      with_reducible rfl
     rotate_left
     ·simp only [Act.put, s0_, s1_, s2_, i64_w, i32_w]
      rfl
     refine val_ (v := ?_) (a' := ?_) 44 61 bz11_46 rfl rfl HT_.out (by kernel_rfl) (by rfl) (fun _ _ _ h => h) ?_ ?_ ?_
     rotate_left
     ·intro w'
      go_simp
      with_reducible rfl
     rotate_left
     ·simp only [Act.put, s0_, s1_, s2_, i64_w, i32_w]
      rfl
     refine val_ (v := ?_) (a' := ?_) 45 62 bz11_47 rfl rfl HT_.out (by kernel_rfl) (by rfl) (fun _ _ _ h => h) ?_ ?_ ?_
     rotate_left
     ·intro w'
      go_simp
      with_reducible rfl
     rotate_left
     ·simp only [Act.put, s0_, s1_, s2_, i64_w, i32_w]
      rfl
     refine take_ (i := 41) (N := some 58) (v := ?_) (a' := ?_) bz11_48 rfl rfl (take_ofW HT_.out HW_.out (by kernel_rfl)) (fun _ _ _ h => h) (Or.inl ⟨by rfl, ?_⟩) hHeld ?_ ?_
     rotate_left
     ·rintro w' ⟨s0, s1, s2, s3, s4, s5, s6, s7, s8, s9, s10, s11, s12⟩
      go_simp
      with_reducible rfl
     rotate_left
     ·simp only [Act.put, s0_, s1_, s2_, i64_w, i32_w]
      rfl
     refine take_ (i := 46) (N := some 63) (v := ?_) (a' := ?_) bz11_49 rfl rfl (take_ofW HT_.out HW_.out (by kernel_rfl)) (fun _ _ _ h => h) (Or.inl ⟨by rfl, ?_⟩) hHeld ?_ ?_
     rotate_left
     ·rintro w' ⟨s0, s1, s2, s3, s4, s5, s6, s7, s8, s9, s10, s11, s12⟩
      go_simp
      with_reducible rfl
     rotate_left
     ·simp only [Act.put, s0_, s1_, s2_, i64_w, i32_w]
      rfl
     refine val_ (v := ?_) (a' := ?_) 47 64 bz11_50 rfl rfl HT_.out (by kernel_rfl) (by rfl) (fun _ _ _ h => h) ?_ ?_ ?_
     rotate_left
     ·intro w'
      go_simp
      with_reducible rfl
     rotate_left
     ·simp only [Act.put, s0_, s1_, s2_, i64_w, i32_w]
      rfl
     refine take_ (i := 48) (N := some 65) (v := ?_) (a' := ?_) bz11_51 rfl rfl (take_ofW HT_.out HW_.out (by kernel_rfl)) (fun _ _ _ h => h) (Or.inl ⟨by rfl, ?_⟩) hHeld ?_ ?_
     rotate_left
     ·rintro w' ⟨s0, s1, s2, s3, s4, s5, s6, s7, s8, s9, s10, s11, s12⟩
      go_simp
      with_reducible rfl
     rotate_left
     ·simp only [Act.put, s0_, s1_, s2_, i64_w, i32_w]
      rfl
     refine val_ (v := ?_) (a' := ?_) 49 66 bz11_52 rfl rfl HT_.out (by kernel_rfl) (by rfl) (fun _ _ _ h => h) ?_ ?_ ?_
     rotate_left
     ·intro w'
      go_simp
      with_reducible rfl
     rotate_left
     ·simp only [Act.put, s0_, s1_, s2_, i64_w, i32_w]
      rfl
     refine val_ (v := ?_) (a' := ?_) 50 67 bz11_23 rfl rfl HT_.out (by kernel_rfl) (by rfl) (fun _ _ _ h => h) ?_ ?_ ?_
     rotate_left
     ·intro w'
      go_simp
      with_reducible rfl
     rotate_left
     ·simp only [Act.put, s0_, s1_, s2_, i64_w, i32_w]
      rfl
     refine val_ (v := ?_) (a' := ?_) 51 68 bz11_24 rfl rfl HT_.out (by kernel_rfl) (by rfl) (fun _ _ _ h => h) ?_ ?_ ?_
     rotate_left
     ·intro w'
      go_simp
      with_reducible rfl
     rotate_left
     ·simp only [Act.put, s0_, s1_, s2_, i64_w, i32_w]
      rfl
     refine done_ (done_of HT_.out (by kernel_rfl)) ?_
     try go_wp2
     go_ret
     exact ⟨by first | rfl | (simp [errW_none, errW_some] <;> rfl) | (simp only [← hji21]; first | rfl | (simp [errW_none, errW_some] <;> rfl)) | (simp [*, errW_none, errW_some] <;> rfl), by repeat (first | exact HB.out | apply below_alloc | apply pw_below_drewN | apply below_drew1)⟩
    rw [if_pos c12] at H
    have c12b0 : ((rd (rd_L5 l1 x12_1) 0) == (rd (rd_L5 l1 x12_1) 1)) = true := beq_iff_eq.mpr c12
    have c12b1 : ((rd (rd_L5 l1 x12_1) 0) != (rd (rd_L5 l1 x12_1) 1)) = false := bne_eq_false_iff_eq.mpr c12
    clear c12
    obtain rfl := Option.some.inj H
    have p214 : 0 ≤ (x12_1 : Int) := of_decide_eq_true (by assumption)
    have q214 : x12_1 < (l1.length : Int) := of_decide_eq_true (by assumption)
    obtain ⟨ad214, A214_0, c214_0, e214, hx214_0, hl214_0, hi214_0⟩ := at_L5 HR1.out x12_1 p214 q214
    cases e214
    replace hx214_0 := (HB.out.cell (World.block_lt_of_cell? w _ hx214_0)).trans hx214_0
    have HR214_0 := Aside0.mk hi214_0
    have HC214_0 := Aside0.mk hl214_0
    clear hi214_0 hl214_0
    replace p214 := eq_true p214
    replace q214 := eq_true q214
    try go_wp2
    have n0_ := Aside0.mk (below_drew1 HB.out)
    clear HB
    have HB := n0_
    clear n0_
    have p216 : 0 ≤ (0 : Int) := (by omega)
    have q216 : 0 < ((rd_L5 l1 x12_1).length : Int) := of_decide_eq_true (by assumption)
    obtain ⟨ad216, e216, hx216_0⟩ := Kd.at_int HR214_0.out 0 p216 q216
    have hw216_0 := hx216_0
    (try rw [show ((0 : Int)).toNat = 0 from rfl] at hw216_0)
    (try rw [show 0 * 1 = 0 from rfl] at hw216_0)
    (try rw [Addr.add_zero'] at hw216_0)
    cases e216
    have qi216 : (0 < (rd_L5 l1 x12_1).length) = True := eq_true (by omega)
    (try rw [show ((0 : Int)).toNat = 0 from rfl] at hx216_0)
    (try rw [Addr.add_zero'] at hx216_0)
    replace hx216_0 := (HB.out.cell (World.block_lt_of_cell? w _ hx216_0)).trans hx216_0
    replace p216 := eq_true p216
    replace q216 := eq_true q216
    have p217 : 0 ≤ (1 : Int) := (by omega)
    have q217 : 1 < ((rd_L5 l1 x12_1).length : Int) := of_decide_eq_true (by assumption)
    obtain ⟨ad217, e217, hx217_0⟩ := Kd.at_int HR214_0.out 1 p217 q217
    have hw217_0 := hx217_0
    (try rw [show ((1 : Int)).toNat = 1 from rfl] at hw217_0)
    (try rw [show 1 * 1 = 1 from rfl] at hw217_0)
    (try simp only [Nat.reduceMul, Nat.reduceEqDiff, Go.Addr.add, ↓reduceIte] at hw217_0)
    obtain rfl : ad216 = ad217 := (by injection e217)
    (try simp only [show (1 : Int).toNat = 1 from rfl, Nat.reduceMul, Nat.reduceEqDiff, Go.Addr.add, ↓reduceIte] at hx217_0)
    have qi217 : (1 < (rd_L5 l1 x12_1).length) = True := eq_true (by omega)
    (try rw [show ((1 : Int)).toNat = 1 from rfl] at hx217_0)
    replace hx217_0 := (HB.out.cell (World.block_lt_of_cell? w _ hx217_0)).trans hx217_0
    replace p217 := eq_true p217
    replace q217 := eq_true q217
    refine start_ (n := 52) (S := fun w' => w'.cell? ad216 = some (.int .i64 (rd (rd_L5 l1 x12_1) 0)) ∧ w'.cell? ⟨ad216.block, ad216.off + 1, none⟩ = some (.int .i64 (rd (rd_L5 l1 x12_1) 1))) (ds := []) bz11_0 (by kernel_rfl) rfl rfl ⟨((HB.out.cell (World.block_lt_of_cell? w _ hw216_0)).trans hw216_0), ((HB.out.cell (World.block_lt_of_cell? w _ hw217_0)).trans hw217_0)⟩ (fun hHeld => ?_); refine with_tabW impl_pairsOk.tab6 impl_pairsOk.bits6 (fun HT_ HW_ => ?_)
    generalize wr.drew = w13 at HB hx216_0 hx217_0 hHeld ⊢
    refine val_ (v := ?_) (a' := ?_) 0 17 bz11_1 rfl rfl HT_.out (by kernel_rfl) (by rfl) (fun _ _ _ h => h) ?_ ?_ ?_
    rotate_left
    ·intro w'
     go_simp
     with_reducible rfl
    rotate_left
    ·simp only [Act.put, s0_, s1_, s2_, i64_w, i32_w]
     rfl
    refine val_ (v := ?_) (a' := ?_) 1 18 bz11_2 rfl rfl HT_.out (by kernel_rfl) (by rfl) (fun _ _ _ h => h) ?_ ?_ ?_
    rotate_left
    ·intro w'
     go_simp
     with_reducible rfl
    rotate_left
    ·simp only [Act.put, s0_, s1_, s2_, i64_w, i32_w]
     rfl
    refine val_ (v := ?_) (a' := ?_) 2 19 bz11_3 rfl rfl HT_.out (by kernel_rfl) (by rfl) (fun _ _ _ h => h) ?_ ?_ ?_
    rotate_left
    ·intro w'
     go_simp
     with_reducible rfl
    rotate_left
    ·simp only [Act.put, s0_, s1_, s2_, i64_w, i32_w]
     rfl
    refine val_ (v := ?_) (a' := ?_) 3 20 bz11_4 rfl rfl HT_.out (by kernel_rfl) (by rfl) (fun _ _ _ h => h) ?_ ?_ ?_
    rotate_left
    ·intro w'
     go_simp
     with_reducible rfl
    rotate_left
    ·simp only [Act.put, s0_, s1_, s2_, i64_w, i32_w]
     rfl
    refine val_ (v := ?_) (a' := ?_) 4 21 bz11_5 rfl rfl HT_.out (by kernel_rfl) (by rfl) (fun _ _ _ h => h) ?_ ?_ ?_
    rotate_left
    ·intro w'
     go_simp
     with_reducible rfl
    rotate_left
    ·simp only [Act.put, s0_, s1_, s2_, i64_w, i32_w]
     rfl
    refine val_ (v := ?_) (a' := ?_) 5 22 bz11_6 rfl rfl HT_.out (by kernel_rfl) (by rfl) (fun _ _ _ h => h) ?_ ?_ ?_
    rotate_left
    ·intro w'
     go_simp
     with_reducible rfl
    rotate_left
    ·simp only [Act.put, s0_, s1_, s2_, i64_w, i32_w]
     rfl
    refine one_ (i := 6) (N := some 23) bz11_7 rfl rfl (one_of HT_.out (by kernel_rfl)) (by decide) (fun K hK => ?_)
    refine goes_ Try.func172 (by kernel_rfl) rfl #[.slice A0 l0.length c0, .slice (some ad216) (rd_L5 l1 x12_1).length c214_0] (by rfl) rfl rfl (by (try simp only [List.map_toArray, List.map_cons, List.map_nil]); first | done | rfl) ?_
    with_reducible refine (impl_composedOk.calls _ _ l0 _ _ (rd_L5 l1 x12_1) true _ ?side1 ?side2 ?side3 ?side4 A8.out).mono ?_
    (case side1 => exact (Kd.C_below HR0.out HB.out))
    (case side2 => exact HC0.out)
    (case side3 => exact (Kd.C_below HR214_0.out HB.out))
    (case side4 => exact HC214_0.out)
    rintro e w14 ⟨rfl, hb⟩
    refine ⟨_, rfl, ?_⟩
    have n0_ := Aside0.mk (below_step (by repeat (first | exact HB.out | apply below_alloc | apply pw_below_drewN | apply below_drew1)) hb)
    clear HB
    have HB := n0_
    clear n0_
    (try clear hb)
    (try clear hb2)
    (try clear hk)
    (try clear hi)
    refine hK.out _ _ ⟨((HB.out.cell (World.block_lt_of_cell? w _ hw216_0)).trans hw216_0), ((HB.out.cell (World.block_lt_of_cell? w _ hw217_0)).trans hw217_0)⟩ (fun hHeld => ?_)
    clear hK K
    refine norm_ (a' := ?_) ?_ ?_
    rotate_left
    ·show Act.put _ (some 23) _ = _
     simp only [Act.put, s0_, s1_, s2_, i64_w, i32_w]
     rfl
    refine val_ (v := ?_) (a' := ?_) 7 24 bz11_8 rfl rfl HT_.out (by kernel_rfl) (by rfl) (fun _ _ _ h => h) ?_ ?_ ?_
    rotate_left
    ·intro w'
     go_simp
     with_reducible rfl
    rotate_left
    ·simp only [Act.put, s0_, s1_, s2_, i64_w, i32_w]
     rfl
    refine val_ (v := ?_) (a' := ?_) 8 25 bz11_9 rfl rfl HT_.out (by kernel_rfl) (by rfl) (fun _ _ _ h => h) ?_ ?_ ?_
    rotate_left
    ·intro w'
     go_simp
     with_reducible rfl
    rotate_left
    ·simp only [Act.put, s0_, s1_, s2_, i64_w, i32_w]
     rfl
    refine val_ (v := ?_) (a' := ?_) 9 26 bz11_10 rfl rfl HT_.out (by kernel_rfl) (by rfl) (fun _ _ _ h => h) ?_ ?_ ?_
    rotate_left
    ·intro w'
     go_simp
     with_reducible rfl
    rotate_left
    ·simp only [Act.put, s0_, s1_, s2_, i64_w, i32_w]
     rfl
    refine val_ (v := ?_) (a' := ?_) 10 27 bz11_11 rfl rfl HT_.out (by kernel_rfl) (by rfl) (fun _ _ _ h => h) ?_ ?_ ?_
    rotate_left
    ·intro w'
     go_simp
     with_reducible rfl
    rotate_left
    ·simp only [Act.put, s0_, s1_, s2_, i64_w, i32_w]
     rfl
    refine val_ (v := ?_) (a' := ?_) 11 28 bz11_12 rfl rfl HT_.out (by kernel_rfl) (by rfl) (fun _ _ _ h => h) ?_ ?_ ?_
    rotate_left
    ·intro w'
     go_simp
     with_reducible rfl
    rotate_left
    ·simp only [Act.put, s0_, s1_, s2_, i64_w, i32_w]
     rfl
    refine val_ (v := ?_) (a' := ?_) 13 30 bz11_13 rfl rfl HT_.out (by kernel_rfl) (by rfl) (fun _ _ _ h => h) ?_ ?_ ?_
    rotate_left
    ·intro w'
     go_simp
     with_reducible rfl
    rotate_left
    ·simp only [Act.put, s0_, s1_, s2_, i64_w, i32_w]
     rfl
    refine val_ (v := ?_) (a' := ?_) 14 31 bz11_14 rfl rfl HT_.out (by kernel_rfl) (by rfl) (fun _ _ _ h => h) ?_ ?_ ?_
    rotate_left
    ·intro w'
     go_simp
     with_reducible rfl
    rotate_left
    ·simp only [Act.put, s0_, s1_, s2_, i64_w, i32_w]
     rfl
    refine take_ (i := 12) (N := some 29) (v := ?_) (a' := ?_) bz11_15 rfl rfl (take_ofW HT_.out HW_.out (by kernel_rfl)) (fun _ _ _ h => h) (Or.inl ⟨by rfl, ?_⟩) hHeld ?_ ?_
    rotate_left
    ·rintro w' ⟨s0, s1⟩
     go_simp
     with_reducible rfl
    rotate_left
    ·simp only [Act.put, s0_, s1_, s2_, i64_w, i32_w]
     rfl
    refine take_ (i := 15) (N := some 32) (v := ?_) (a' := ?_) bz11_16 rfl rfl (take_ofW HT_.out HW_.out (by kernel_rfl)) (fun _ _ _ h => h) (Or.inl ⟨by rfl, ?_⟩) hHeld ?_ ?_
    rotate_left
    ·rintro w' ⟨s0, s1⟩
     go_simp
     with_reducible rfl
    rotate_left
    ·simp only [Act.put, s0_, s1_, s2_, i64_w, i32_w]
     rfl
    refine val_ (v := ?_) (a' := ?_) 16 33 bz11_17 rfl rfl HT_.out (by kernel_rfl) (by rfl) (fun _ _ _ h => h) ?_ ?_ ?_
    rotate_left
    ·intro w'
     go_simp
     with_reducible rfl
    rotate_left
    ·simp only [Act.put, s0_, s1_, s2_, i64_w, i32_w]
     rfl
    refine val_ (v := ?_) (a' := ?_) 17 34 bz11_18 rfl rfl HT_.out (by kernel_rfl) (by rfl) (fun _ _ _ h => h) ?_ ?_ ?_
    rotate_left
    ·intro w'
     go_simp
     with_reducible rfl
    rotate_left
    ·simp only [Act.put, s0_, s1_, s2_, i64_w, i32_w]
     rfl
    refine val_ (v := ?_) (a' := ?_) 18 35 bz11_19 rfl rfl HT_.out (by kernel_rfl) (by rfl) (fun _ _ _ h => h) ?_ ?_ ?_
    rotate_left
    ·intro w'
     go_simp
     with_reducible rfl
    rotate_left
    ·simp only [Act.put, s0_, s1_, s2_, i64_w, i32_w]
     rfl
    refine unds_ [(19, 36), (20, 37), (21, 38), (22, 39), (23, 40), (24, 41), (25, 42), (26, 43), (27, 44), (28, 45), (29, 46), (30, 47), (31, 48), (32, 49), (33, 50)] (a' := ?_) 18 bz11_20 HT_.out (by kernel_rfl) (by kernel_rfl) (fun _ _ _ _ _ h => h) rfl ?_ ?_
    rotate_left
    ·simp only [putU, Act.put, s0_, s1_, s2_, i64_w, i32_w]
     rfl
    refine val_ (v := ?_) (a' := ?_) 34 51 bz11_21 rfl rfl HT_.out (by kernel_rfl) (by rfl) (fun _ _ _ h => h) ?_ ?_ ?_
    rotate_left
    ·intro w'
     go_simp
     with_reducible rfl
    rotate_left
    ·simp only [Act.put, s0_, s1_, s2_, i64_w, i32_w]
     rfl
    refine val_ (v := ?_) (a' := ?_) 35 52 bz11_22 rfl rfl HT_.out (by kernel_rfl) (by rfl) (fun _ _ _ h => h) ?_ ?_ ?_
    rotate_left
    ·intro w'
     go_simp
     with_reducible rfl
    rotate_left
    ·simp only [Act.put, s0_, s1_, s2_, i64_w, i32_w]
     rfl
    refine unds_ [(36, 53), (37, 54), (38, 55), (39, 56), (40, 57), (41, 58), (42, 59), (43, 60), (44, 61), (45, 62), (46, 63), (47, 64), (48, 65), (49, 66), (50, 67)] (a' := ?_) 1 bz11_23 HT_.out (by kernel_rfl) (by kernel_rfl) (fun _ _ _ _ _ h => h) rfl ?_ ?_
    rotate_left
    ·simp only [putU, Act.put, s0_, s1_, s2_, i64_w, i32_w]
     rfl
    refine val_ (v := ?_) (a' := ?_) 51 68 bz11_24 rfl rfl HT_.out (by kernel_rfl) (by rfl) (fun _ _ _ h => h) ?_ ?_ ?_
    rotate_left
    ·intro w'
     go_simp
     with_reducible rfl
    rotate_left
    ·simp only [Act.put, s0_, s1_, s2_, i64_w, i32_w]
     rfl
    refine done_ (done_of HT_.out (by kernel_rfl)) ?_
    try go_wp2
    go_ret
    exact ⟨by first | rfl | (simp [errW_none, errW_some] <;> rfl) | (simp [*, errW_none, errW_some] <;> rfl), by repeat (first | exact HB.out | apply below_alloc | apply pw_below_drewN | apply below_drew1)⟩
 rw [if_pos c3] at H
 have c3b0 : decide (8 < (l1.length : Int)) = true := decide_eq_true c3
 have c3b1 : decide (8 < l1.length) = true := decide_eq_true (by omega)
 clear c3
 obtain rfl := Option.some.inj H
 go_enter Try.func160, Try.ntmps160
 go_wp2
 go_ret
 exact ⟨by first | rfl | (simp [errW_none, errW_some] <;> rfl) | (simp [*, errW_none, errW_some] <;> rfl), by repeat (first | exact HB.out | apply below_alloc | apply pw_below_drewN | apply below_drew1)⟩

end Go.Proofs.Ytfledgccnaknpaa.PFnExactClosedForm
