-- written by xprint.py, a program of this repo over the kit's print; not trusted: Lean checks it
import Derived.Test.YtagjleeckbnddaaPFnExactOpenAndClosedx0
import Derived.Test.YtagjleeckbnddaaPFnExactOpenAndClosedx1
namespace Go.Proofs.Ytagjleeckbnddaa.PFnExactOpenAndClosed
open Go.RowKit Go.Proofs.YtagjleeckbnddaaW.PrintWords Go.Proofs.YtagjleeckbnddaaW.PrintLast Go.Proofs.YtagjleeckbnddaaW.PrintMore
attribute [local go_sem] max2_int min2_int max_two min_two max_three min_three max_four min_four   -- for this text's walks alone
set_option linter.unusedVariables false
set_option linter.unusedSimpArgs false

open Go.Proofs.YtagjleeckbnddaaXW (unds_ putU val_)
open List renaming setIfInBounds_toArray → s0_, set_cons_zero → s1_, set_cons_succ → s2_
abbrev bz4_0 : Array Bool := #[false,false,false,false,false,false,false,false,false,false,false,false,false,false,false,false,false,false,false,false,false,false,false,false,false,false,false,false,false,false,false,false,false,false,false,false,false,false,false,false,false,false,false,false,false,false,false,false,false,false,false,false]
abbrev bz4_1 : Array Bool := #[true,false,false,false,false,false,false,false,false,false,false,false,false,false,false,false,false,false,false,false,false,false,false,false,false,false,false,false,false,false,false,false,false,false,false,false,false,false,false,false,false,false,false,false,false,false,false,false,false,false,false,false]
abbrev bz4_2 : Array Bool := #[true,true,false,false,false,false,false,false,false,false,false,false,false,false,false,false,false,false,false,false,false,false,false,false,false,false,false,false,false,false,false,false,false,false,false,false,false,false,false,false,false,false,false,false,false,false,false,false,false,false,false,false]
abbrev bz4_3 : Array Bool := #[true,true,true,false,false,false,false,false,false,false,false,false,false,false,false,false,false,false,false,false,false,false,false,false,false,false,false,false,false,false,false,false,false,false,false,false,false,false,false,false,false,false,false,false,false,false,false,false,false,false,false,false]
abbrev bz4_4 : Array Bool := #[true,true,true,true,false,false,false,false,false,false,false,false,false,false,false,false,false,false,false,false,false,false,false,false,false,false,false,false,false,false,false,false,false,false,false,false,false,false,false,false,false,false,false,false,false,false,false,false,false,false,false,false]
abbrev bz4_5 : Array Bool := #[true,true,true,true,true,false,false,false,false,false,false,false,false,false,false,false,false,false,false,false,false,false,false,false,false,false,false,false,false,false,false,false,false,false,false,false,false,false,false,false,false,false,false,false,false,false,false,false,false,false,false,false]
abbrev bz4_6 : Array Bool := #[true,true,true,true,true,true,false,false,false,false,false,false,false,false,false,false,false,false,false,false,false,false,false,false,false,false,false,false,false,false,false,false,false,false,false,false,false,false,false,false,false,false,false,false,false,false,false,false,false,false,false,false]
abbrev bz4_7 : Array Bool := #[true,true,true,true,true,true,true,false,false,false,false,false,false,false,false,false,false,false,false,false,false,false,false,false,false,false,false,false,false,false,false,false,false,false,false,false,false,false,false,false,false,false,false,false,false,false,false,false,false,false,false,false]
abbrev bz4_8 : Array Bool := #[true,true,true,true,true,true,true,true,false,false,false,false,false,false,false,false,false,false,false,false,false,false,false,false,false,false,false,false,false,false,false,false,false,false,false,false,false,false,false,false,false,false,false,false,false,false,false,false,false,false,false,false]
abbrev bz4_9 : Array Bool := #[true,true,true,true,true,true,true,true,true,false,false,false,false,false,false,false,false,false,false,false,false,false,false,false,false,false,false,false,false,false,false,false,false,false,false,false,false,false,false,false,false,false,false,false,false,false,false,false,false,false,false,false]
abbrev bz4_10 : Array Bool := #[true,true,true,true,true,true,true,true,true,true,false,false,false,false,false,false,false,false,false,false,false,false,false,false,false,false,false,false,false,false,false,false,false,false,false,false,false,false,false,false,false,false,false,false,false,false,false,false,false,false,false,false]
abbrev bz4_11 : Array Bool := #[true,true,true,true,true,true,true,true,true,true,true,false,false,false,false,false,false,false,false,false,false,false,false,false,false,false,false,false,false,false,false,false,false,false,false,false,false,false,false,false,false,false,false,false,false,false,false,false,false,false,false,false]
abbrev bz4_12 : Array Bool := #[true,true,true,true,true,true,true,true,true,true,true,true,false,false,false,false,false,false,false,false,false,false,false,false,false,false,false,false,false,false,false,false,false,false,false,false,false,false,false,false,false,false,false,false,false,false,false,false,false,false,false,false]
abbrev bz4_13 : Array Bool := #[true,true,true,true,true,true,true,true,true,true,true,true,false,true,false,false,false,false,false,false,false,false,false,false,false,false,false,false,false,false,false,false,false,false,false,false,false,false,false,false,false,false,false,false,false,false,false,false,false,false,false,false]
abbrev bz4_14 : Array Bool := #[true,true,true,true,true,true,true,true,true,true,true,true,false,true,true,false,false,false,false,false,false,false,false,false,false,false,false,false,false,false,false,false,false,false,false,false,false,false,false,false,false,false,false,false,false,false,false,false,false,false,false,false]
abbrev bz4_15 : Array Bool := #[true,true,true,true,true,true,true,true,true,true,true,true,true,true,true,false,false,false,false,false,false,false,false,false,false,false,false,false,false,false,false,false,false,false,false,false,false,false,false,false,false,false,false,false,false,false,false,false,false,false,false,false]
abbrev bz4_16 : Array Bool := #[true,true,true,true,true,true,true,true,true,true,true,true,true,true,true,true,false,false,false,false,false,false,false,false,false,false,false,false,false,false,false,false,false,false,false,false,false,false,false,false,false,false,false,false,false,false,false,false,false,false,false,false]
abbrev bz4_17 : Array Bool := #[true,true,true,true,true,true,true,true,true,true,true,true,true,true,true,true,true,false,false,false,false,false,false,false,false,false,false,false,false,false,false,false,false,false,false,false,false,false,false,false,false,false,false,false,false,false,false,false,false,false,false,false]
abbrev bz4_18 : Array Bool := #[true,true,true,true,true,true,true,true,true,true,true,true,true,true,true,true,true,true,false,false,false,false,false,false,false,false,false,false,false,false,false,false,false,false,false,false,false,false,false,false,false,false,false,false,false,false,false,false,false,false,false,false]
abbrev bz4_19 : Array Bool := #[true,true,true,true,true,true,true,true,true,true,true,true,true,true,true,true,true,true,true,false,false,false,false,false,false,false,false,false,false,false,false,false,false,false,false,false,false,false,false,false,false,false,false,false,false,false,false,false,false,false,false,false]
abbrev bz4_20 : Array Bool := #[true,true,true,true,true,true,true,true,true,true,true,true,true,true,true,true,true,true,true,true,true,true,true,true,true,true,true,true,true,true,true,true,true,true,false,false,false,false,false,false,false,false,false,false,false,false,false,false,false,false,false,false]
abbrev bz4_21 : Array Bool := #[true,true,true,true,true,true,true,true,true,true,true,true,true,true,true,true,true,true,true,true,true,true,true,true,true,true,true,true,true,true,true,true,true,true,true,false,false,false,false,false,false,false,false,false,false,false,false,false,false,false,false,false]
abbrev bz4_22 : Array Bool := #[true,true,true,true,true,true,true,true,true,true,true,true,true,true,true,true,true,true,true,true,true,true,true,true,true,true,true,true,true,true,true,true,true,true,true,true,false,false,false,false,false,false,false,false,false,false,false,false,false,false,false,false]
abbrev bz4_23 : Array Bool := #[true,true,true,true,true,true,true,true,true,true,true,true,true,true,true,true,true,true,true,true,true,true,true,true,true,true,true,true,true,true,true,true,true,true,true,true,true,true,true,true,true,true,true,true,true,true,true,true,true,true,true,false]
abbrev bz4_24 : Array Bool := #[true,true,true,true,true,true,true,true,true,true,true,true,true,true,true,true,true,true,true,true,true,true,true,true,true,true,true,true,true,true,true,true,true,true,true,true,true,true,true,true,true,true,true,true,true,true,true,true,true,true,true,true]
abbrev bz4_25 : Array Bool := #[true,true,true,true,true,true,true,true,true,true,true,true,true,true,true,true,true,true,true,true,false,false,false,false,false,false,false,false,false,false,false,false,false,false,false,false,false,false,false,false,false,false,false,false,false,false,false,false,false,false,false,false]
abbrev bz4_26 : Array Bool := #[true,true,true,true,true,true,true,true,true,true,true,true,true,true,true,true,true,true,true,true,true,false,false,false,false,false,false,false,false,false,false,false,false,false,false,false,false,false,false,false,false,false,false,false,false,false,false,false,false,false,false,false]
abbrev bz4_27 : Array Bool := #[true,true,true,true,true,true,true,true,true,true,true,true,true,true,true,true,true,true,true,true,true,true,false,false,false,false,false,false,false,false,false,false,false,false,false,false,false,false,false,false,false,false,false,false,false,false,false,false,false,false,false,false]
abbrev bz4_28 : Array Bool := #[true,true,true,true,true,true,true,true,true,true,true,true,true,true,true,true,true,true,true,true,true,true,false,false,false,false,true,false,false,false,false,false,false,false,false,false,false,false,false,false,false,false,false,false,false,false,false,false,false,false,false,false]
abbrev bz4_29 : Array Bool := #[true,true,true,true,true,true,true,true,true,true,true,true,true,true,true,true,true,true,true,true,true,true,false,false,false,false,true,true,false,false,false,false,false,false,false,false,false,false,false,false,false,false,false,false,false,false,false,false,false,false,false,false]
abbrev bz4_30 : Array Bool := #[true,true,true,true,true,true,true,true,true,true,true,true,true,true,true,true,true,true,true,true,true,true,false,false,false,false,true,true,true,false,false,false,false,false,false,false,false,false,false,false,false,false,false,false,false,false,false,false,false,false,false,false]
abbrev bz4_31 : Array Bool := #[true,true,true,true,true,true,true,true,true,true,true,true,true,true,true,true,true,true,true,true,true,true,true,false,false,false,true,true,true,false,false,false,false,false,false,false,false,false,false,false,false,false,false,false,false,false,false,false,false,false,false,false]
abbrev bz4_32 : Array Bool := #[true,true,true,true,true,true,true,true,true,true,true,true,true,true,true,true,true,true,true,true,true,true,true,true,false,false,true,true,true,false,false,false,false,false,false,false,false,false,false,false,false,false,false,false,false,false,false,false,false,false,false,false]
abbrev bz4_33 : Array Bool := #[true,true,true,true,true,true,true,true,true,true,true,true,true,true,true,true,true,true,true,true,true,true,true,true,true,false,true,true,true,false,false,false,false,false,false,false,false,false,false,false,false,false,false,false,false,false,false,false,false,false,false,false]
abbrev bz4_34 : Array Bool := #[true,true,true,true,true,true,true,true,true,true,true,true,true,true,true,true,true,true,true,true,true,true,true,true,true,true,true,true,true,false,false,false,false,false,false,false,false,false,false,false,false,false,false,false,false,false,false,false,false,false,false,false]
abbrev bz4_35 : Array Bool := #[true,true,true,true,true,true,true,true,true,true,true,true,true,true,true,true,true,true,true,true,true,true,true,true,true,true,true,true,true,true,false,false,false,false,false,false,false,false,false,false,false,false,false,false,false,false,false,false,false,false,false,false]
abbrev bz4_36 : Array Bool := #[true,true,true,true,true,true,true,true,true,true,true,true,true,true,true,true,true,true,true,true,true,true,true,true,true,true,true,true,true,true,true,false,false,false,false,false,false,false,false,false,false,false,false,false,false,false,false,false,false,false,false,false]
abbrev bz4_37 : Array Bool := #[true,true,true,true,true,true,true,true,true,true,true,true,true,true,true,true,true,true,true,true,true,true,true,true,true,true,true,true,true,true,true,true,false,false,false,false,false,false,false,false,false,false,false,false,false,false,false,false,false,false,false,false]
abbrev bz4_38 : Array Bool := #[true,true,true,true,true,true,true,true,true,true,true,true,true,true,true,true,true,true,true,true,true,true,true,true,true,true,true,true,true,true,true,true,true,false,false,false,false,false,false,false,false,false,false,false,false,false,false,false,false,false,false,false]
abbrev bz4_39 : Array Bool := #[true,true,true,true,true,true,true,true,true,true,true,true,true,true,true,true,true,true,true,true,true,true,true,true,true,true,true,true,true,true,true,true,true,true,true,true,true,false,false,false,false,false,false,false,false,false,false,false,false,false,false,false]
abbrev bz4_40 : Array Bool := #[true,true,true,true,true,true,true,true,true,true,true,true,true,true,true,true,true,true,true,true,true,true,true,true,true,true,true,true,true,true,true,true,true,true,true,true,true,true,false,false,false,false,false,false,false,false,false,false,false,false,false,false]
abbrev bz4_41 : Array Bool := #[true,true,true,true,true,true,true,true,true,true,true,true,true,true,true,true,true,true,true,true,true,true,true,true,true,true,true,true,true,true,true,true,true,true,true,true,true,true,true,false,false,false,false,false,false,false,false,false,false,false,false,false]
abbrev bz4_42 : Array Bool := #[true,true,true,true,true,true,true,true,true,true,true,true,true,true,true,true,true,true,true,true,true,true,true,true,true,true,true,true,true,true,true,true,true,true,true,true,true,true,true,true,false,false,false,false,false,false,false,false,false,false,false,false]
abbrev bz4_43 : Array Bool := #[true,true,true,true,true,true,true,true,true,true,true,true,true,true,true,true,true,true,true,true,true,true,true,true,true,true,true,true,true,true,true,true,true,true,true,true,true,true,true,true,true,false,false,false,false,false,false,false,false,false,false,false]
abbrev bz4_44 : Array Bool := #[true,true,true,true,true,true,true,true,true,true,true,true,true,true,true,true,true,true,true,true,true,true,true,true,true,true,true,true,true,true,true,true,true,true,true,true,true,true,true,true,true,false,true,false,false,false,false,false,false,false,false,false]
abbrev bz4_45 : Array Bool := #[true,true,true,true,true,true,true,true,true,true,true,true,true,true,true,true,true,true,true,true,true,true,true,true,true,true,true,true,true,true,true,true,true,true,true,true,true,true,true,true,true,false,true,true,false,false,false,false,false,false,false,false]
abbrev bz4_46 : Array Bool := #[true,true,true,true,true,true,true,true,true,true,true,true,true,true,true,true,true,true,true,true,true,true,true,true,true,true,true,true,true,true,true,true,true,true,true,true,true,true,true,true,true,false,true,true,true,false,false,false,false,false,false,false]
abbrev bz4_47 : Array Bool := #[true,true,true,true,true,true,true,true,true,true,true,true,true,true,true,true,true,true,true,true,true,true,true,true,true,true,true,true,true,true,true,true,true,true,true,true,true,true,true,true,true,false,true,true,true,true,false,false,false,false,false,false]
abbrev bz4_48 : Array Bool := #[true,true,true,true,true,true,true,true,true,true,true,true,true,true,true,true,true,true,true,true,true,true,true,true,true,true,true,true,true,true,true,true,true,true,true,true,true,true,true,true,true,true,true,true,true,true,false,false,false,false,false,false]
abbrev bz4_49 : Array Bool := #[true,true,true,true,true,true,true,true,true,true,true,true,true,true,true,true,true,true,true,true,true,true,true,true,true,true,true,true,true,true,true,true,true,true,true,true,true,true,true,true,true,true,true,true,true,true,true,false,false,false,false,false]
abbrev bz4_50 : Array Bool := #[true,true,true,true,true,true,true,true,true,true,true,true,true,true,true,true,true,true,true,true,true,true,true,true,true,true,true,true,true,true,true,true,true,true,true,true,true,true,true,true,true,true,true,true,true,true,true,true,false,false,false,false]
abbrev bz4_51 : Array Bool := #[true,true,true,true,true,true,true,true,true,true,true,true,true,true,true,true,true,true,true,true,true,true,true,true,true,true,true,true,true,true,true,true,true,true,true,true,true,true,true,true,true,true,true,true,true,true,true,true,true,false,false,false]
abbrev bz4_52 : Array Bool := #[true,true,true,true,true,true,true,true,true,true,true,true,true,true,true,true,true,true,true,true,true,true,true,true,true,true,true,true,true,true,true,true,true,true,true,true,true,true,true,true,true,true,true,true,true,true,true,true,true,true,false,false]
/-! ### impl_pairsOk: function 66 -/
def impl_pairsOk.l0 : Nat → List (S93) → List (List Int) → List (List Int) → Int → Int → Option (Bool)
 | 0, _, _, _, _, _ => none
 | k + 1, x0, x1, x10, x11, x12 => if x12 < x11 then (if 0 ≤ x12 then (if x12 < (x10.length : Int) then (if ((rd_L1 x10 x12).length : Int) = 2 then ((impl_composedOk.f x0 (rd_L1 x10 x12)).bind fun t115 => (if t115 = true then (if 0 < ((rd_L1 x10 x12).length : Int) then (if 1 < ((rd_L1 x10 x12).length : Int) then (if (rd (rd_L1 x10 x12) 0) = (rd (rd_L1 x10 x12) 1) then (some false) else (if 0 ≤ (rd (rd_L1 x10 x12) 0) then (if (rd (rd_L1 x10 x12) 0) < (x0.length : Int) then (if 0 ≤ (rd (rd_L1 x10 x12) 1) then (if (rd (rd_L1 x10 x12) 1) < (x0.length : Int) then (if ((rd_T93 x0 (rd (rd_L1 x10 x12) 0)).f2) = ((rd_T93 x0 (rd (rd_L1 x10 x12) 1)).f2) then (if x12 > 0 then (if 0 ≤ (wrap64 (x12 - 1)) then (if (wrap64 (x12 - 1)) < (x1.length : Int) then (if 0 < ((rd_L1 x1 (wrap64 (x12 - 1))).length : Int) then (if (rd (rd_L1 x10 x12) 0) ≤ (rd (rd_L1 x1 (wrap64 (x12 - 1))) 0) then (some false) else (impl_pairsOk.l0 k x0 x1 x10 x11 (wrap64 (x12 + 1)))) else (none)) else (none)) else (none)) else (impl_pairsOk.l0 k x0 x1 x10 x11 (wrap64 (x12 + 1)))) else (some false)) else (none)) else (none)) else (none)) else (none))) else (none)) else (none)) else (some false))) else (some false)) else (none)) else (none)) else (some true)
def impl_pairsOk.f (k : Nat) (l0 : List (S93)) (l1 : List (List Int)) : Option (Bool) := if (l1.length : Int) > 8 then (some false) else (impl_pairsOk.l0 k l0 l1 l1 (l1.length : Int) 0)
theorem impl_pairsOk.mono_l : ∀ k, (∀ y0 y1 y2 y3 y4, LeO (impl_pairsOk.l0 k y0 y1 y2 y3 y4) (impl_pairsOk.l0 (k + 1) y0 y1 y2 y3 y4))
 | 0 => fun _ _ _ _ _ r h => by simp [impl_pairsOk.l0] at h
 | k + 1 => by
  have ih0 := impl_pairsOk.mono_l k
  ·intro y0 y1 y2 y3 y4
   unfold impl_pairsOk.l0
   repeat' first
   | (with_reducible exact ih0 _ _ _ _ _)
   | (with_reducible exact LeO.refl _)
   | (with_reducible exact LeO.none _)
   | (with_reducible refine LeO.ite ?_ ?_)
   | (with_reducible refine LeO.bind ?_ (fun _ => ?_))
   | exact ih0 _ _ _ _ _
   | exact LeO.none _
   | refine LeO.ite ?_ ?_
   | refine LeO.bind ?_ (fun _ => ?_)
theorem impl_pairsOk.mono : ∀ a0 a1 k, LeO (impl_pairsOk.f k a0 a1) (impl_pairsOk.f (k + 1) a0 a1) := by
 intro a0 a1 k
 have ih0 := impl_pairsOk.mono_l k
 unfold impl_pairsOk.f
 repeat' first
   | (with_reducible exact ih0 _ _ _ _ _)
   | (with_reducible exact LeO.refl _)
   | (with_reducible exact LeO.none _)
   | (with_reducible refine LeO.ite ?_ ?_)
   | (with_reducible refine LeO.bind ?_ (fun _ => ?_))
   | exact ih0 _ _ _ _ _
   | exact LeO.none _
   | refine LeO.ite ?_ ?_
   | refine LeO.bind ?_ (fun _ => ?_)
def impl_pairsOk.T6 : Bool × List (List Nat × List Nat) := (true, [([], []), ([0], [0]), ([1], [1]), ([2], [2]), ([3], [3]), ([3], [3]), ([4, 5, 3, 3], [3, 4, 5]), ([6, 3], [3, 6]), ([3, 7], [3, 7]), ([8, 6], [8]), ([9], [9]), ([10, 9], [9, 10]), ([11, 9], [9, 11]), ([9], [9]), ([13, 9], [9, 13]), ([14, 9], [9, 14]), ([12, 15, 9], [9, 12, 15]), ([9, 16], [9, 16]), ([17, 9], [17]), ([18], [18]), ([18], [18]), ([20, 18], [18, 20]), ([21, 18], [18, 21]), ([19, 22, 18], [18, 19, 22]), ([23, 18], [18, 23]), ([24, 18], [18, 24]), ([18], [18]), ([18], [18]), ([27, 18], [18, 27]), ([28, 18], [18, 28]), ([26, 29, 18], [18, 26, 29]), ([30, 18], [18, 30]), ([31, 18], [18, 31]), ([25, 32, 18], [18, 25, 32]), ([18, 33], [18, 33]), ([34, 18], [34]), ([35], [35]), ([36, 35], [35, 36]), ([37, 35, 35], [35, 37]), ([38], [38]), ([39, 38], [38, 39]), ([40, 38], [38, 40]), ([38], [38]), ([38], [38]), ([43, 38], [38, 43]), ([42, 44, 38], [38, 42, 44]), ([45, 38], [38, 45]), ([46, 38], [38, 46]), ([47, 38], [38, 47]), ([41, 48, 38], [38, 41, 48]), ([38, 49, 35], [35, 38, 49]), ([35, 50], [35, 50])])
def impl_pairsOk.B6 : List Nat := [0, 1, 3, 7, 15, 15, 63, 127, 255, 511, 1023, 2047, 4095, 1023, 9215, 25599, 65535, 131071, 262143, 524287, 524287, 1572863, 3670015, 8388607, 16777215, 33554431, 524287, 524287, 134742015, 403177471, 1007157247, 2080899071, 4228382719, 8589934591, 17179869183, 34359738367, 68719476735, 137438953471, 274877906943, 549755813887, 1099511627775, 2199023255551, 549755813887, 549755813887, 9345848836095, 31336081391615, 66520453480447, 136889197658111, 277626686013439, 562949953421311, 1125899906842623, 2251799813685247]
theorem impl_pairsOk.tab6 : rtab .any (opsOf Try.f66 6) = impl_pairsOk.T6 := by kernel_rfl
theorem impl_pairsOk.bits6 : waitsOk impl_pairsOk.T6.2 impl_pairsOk.B6 = true := by kernel_rfl
set_option maxHeartbeats 8000000 in
set_option maxRecDepth 100000 in
theorem impl_pairsOk.calls (k : Nat) (A0 : Option Addr) (c0 : Nat) (l0 : List (S93)) (A1 : Option Addr) (c1 : Nat) (l1 : List (List Int)) (r : Bool) (w : World) (hr0 : Kd.C k93 w A0 l0.length l0) (hc0 : l0.length ≤ c0) (hr1 : Kd.C (Kd.slice 2 (Kd.int .i64)) w A1 l1.length l1) (hc1 : l1.length ≤ c1) (h : impl_pairsOk.f k l0 l1 = some r) :
  Calls Try.prog 66 #[.slice A0 l0.length c0, .slice A1 l1.length c1] w fun e w' => e = .returned (.bool r) ∧ Below w.heap.size w w' := by
 have HR0 := Aside0.mk hr0
 have HC0 := Aside0.mk hc0
 clear hr0 hc0
 have HR1 := Aside0.mk hr1
 have HC1 := Aside0.mk hc1
 clear hr1 hc1
 have HB := Aside0.mk (Below.refl w.heap.size w)
 have H : (if (l1.length : Int) > 8 then (some false) else (impl_pairsOk.l0 k l0 l1 l1 (l1.length : Int) 0)) = some r := h
 clear h
 by_cases c3 : (l1.length : Int) > 8
 rotate_left
 ·rw [if_neg c3] at H
  have c3b0 : decide (8 < (l1.length : Int)) = false := decide_eq_false c3
  have c3b1 : decide (8 < l1.length) = false := decide_eq_false (by omega)
  clear c3
  have H' := Aside0.mk H
  clear H
  go_enter Try.func66, Try.ntmps66
  go_wp2
  go_loopg [12] k (fun kq v12 w' => ∃ (x12_1 : Int), v12 = .int .i64 x12_1 ∧ Aside0 (impl_pairsOk.l0 kq l0 l1 l1 (l1.length : Int) x12_1 = some r) ∧ Aside0 (kq ≤ k) ∧ Aside0 (Below w.heap.size w w'))
  case atStart => exact ⟨(0), (by first | rfl | (simp; done) | (simp [*]; done)), H', ⟨Nat.le_refl _⟩, ⟨by repeat (first | exact HB.out | apply below_alloc | apply pw_below_drewN | apply below_drew1)⟩⟩
  case round =>
   clear H'
   try clear c1
   try clear p2
   try clear c3
   try clear c3b0
   try clear c3b1
   obtain ⟨x12_1, rfl, HA, HK1, HB⟩ := hrel
   cases gk with
   | zero => exact absurd HA.out (by simp [impl_pairsOk.l0])
   | succ k1 =>
    have H := HA.out
    clear HA
    simp only [impl_pairsOk.l0] at H
    by_cases c4 : x12_1 < (l1.length : Int)
    rotate_left
    ·rw [if_neg c4] at H
     have c4b0 : decide (x12_1 < (l1.length : Int)) = false := decide_eq_false c4
     clear c4
     obtain rfl := Option.some.inj H
     go_wp2
     go_ret
     exact ⟨by first | rfl | (simp [errW_none, errW_some] <;> rfl) | (simp [*, errW_none, errW_some] <;> rfl), by repeat (first | exact HB.out | apply below_alloc | apply pw_below_drewN | apply below_drew1)⟩
    rw [if_pos c4] at H
    have c4b0 : decide (x12_1 < (l1.length : Int)) = true := decide_eq_true c4
    clear c4
    by_cases c5 : 0 ≤ x12_1
    rotate_left
    ·rw [if_neg c5] at H
     exact absurd H (by simp)
    rw [if_pos c5] at H
    have c5b0 : decide (0 ≤ x12_1) = true := decide_eq_true c5
    clear c5
    by_cases c6 : x12_1 < (l1.length : Int)
    rotate_left
    ·rw [if_neg c6] at H
     exact absurd H (by simp)
    rw [if_pos c6] at H
    have c6b0 : decide (x12_1 < (l1.length : Int)) = true := decide_eq_true c6
    clear c6
    by_cases c7 : ((rd_L1 l1 x12_1).length : Int) = 2
    rotate_left
    ·rw [if_neg c7] at H
     have c7b0 : (((rd_L1 l1 x12_1).length : Int) == 2) = false := beq_eq_false_iff_ne.mpr c7
     have c7b1 : (((rd_L1 l1 x12_1).length : Int) != 2) = true := bne_iff_ne.mpr c7
     obtain rfl := Option.some.inj H
     have p114 : 0 ≤ (x12_1 : Int) := of_decide_eq_true (by assumption)
     have q114 : x12_1 < (l1.length : Int) := of_decide_eq_true (by assumption)
     obtain ⟨ad114, A114_0, c114_0, e114, hx114_0, hl114_0, hi114_0⟩ := at_L1 HR1.out x12_1 p114 q114
     cases e114
     replace hx114_0 := (HB.out.cell (World.block_lt_of_cell? w _ hx114_0)).trans hx114_0
     have HR114_0 := Aside0.mk hi114_0
     have HC114_0 := Aside0.mk hl114_0
     clear hi114_0 hl114_0
     replace p114 := eq_true p114
     replace q114 := eq_true q114
     try go_wp2
     have n0_ := Aside0.mk (below_drew1 HB.out)
     clear HB
     have HB := n0_
     clear n0_
     refine start_ (n := 52) (S := fun w' => True) (ds := []) bz4_0 (by kernel_rfl) rfl rfl trivial (fun hHeld => ?_); refine with_tabW impl_pairsOk.tab6 impl_pairsOk.bits6 (fun HT_ HW_ => ?_)
     generalize wr.drew = w36 at HB hHeld ⊢
     refine val_ (v := ?_) (a' := ?_) 0 17 bz4_1 rfl rfl HT_.out (by kernel_rfl) (by rfl) (fun _ _ _ h => h) ?_ ?_ ?_
     rotate_left
     ·intro w'
      go_simp
      with_reducible rfl
     rotate_left
     ·simp only [Act.put, s0_, s1_, s2_, i64_w, i32_w]
      rfl
     refine val_ (v := ?_) (a' := ?_) 1 18 bz4_2 rfl rfl HT_.out (by kernel_rfl) (by rfl) (fun _ _ _ h => h) ?_ ?_ ?_
     rotate_left
     ·intro w'
      go_simp
      with_reducible rfl
     rotate_left
     ·simp only [Act.put, s0_, s1_, s2_, i64_w, i32_w]
      rfl
     refine val_ (v := ?_) (a' := ?_) 2 19 bz4_3 rfl rfl HT_.out (by kernel_rfl) (by rfl) (fun _ _ _ h => h) ?_ ?_ ?_
     rotate_left
     ·intro w'
      go_simp
      with_reducible rfl
     rotate_left
     ·simp only [Act.put, s0_, s1_, s2_, i64_w, i32_w]
      rfl
     refine val_ (v := ?_) (a' := ?_) 3 20 bz4_4 rfl rfl HT_.out (by kernel_rfl) (by rfl) (fun _ _ _ h => h) ?_ ?_ ?_
     rotate_left
     ·intro w'
      go_simp
      with_reducible rfl
     rotate_left
     ·simp only [Act.put, s0_, s1_, s2_, i64_w, i32_w]
      rfl
     refine unds_ [(4, 21), (5, 22), (6, 23), (7, 24)] (a' := ?_) 44 bz4_8 HT_.out (by kernel_rfl) (by kernel_rfl) (fun _ _ _ _ _ h => h) rfl ?_ ?_
     rotate_left
     ·simp only [putU, Act.put, s0_, s1_, s2_, i64_w, i32_w]
      rfl
     refine val_ (v := ?_) (a' := ?_) 8 25 bz4_9 rfl rfl HT_.out (by kernel_rfl) (by rfl) (fun _ _ _ h => h) ?_ ?_ ?_
     rotate_left
     ·intro w'
      go_simp
      with_reducible rfl
     rotate_left
     ·simp only [Act.put, s0_, s1_, s2_, i64_w, i32_w]
      rfl
     refine val_ (v := ?_) (a' := ?_) 9 26 bz4_10 rfl rfl HT_.out (by kernel_rfl) (by rfl) (fun _ _ _ h => h) ?_ ?_ ?_
     rotate_left
     ·intro w'
      go_simp
      with_reducible rfl
     rotate_left
     ·simp only [Act.put, s0_, s1_, s2_, i64_w, i32_w]
      rfl
     refine unds_ [(10, 27), (11, 28), (12, 29), (13, 30), (14, 31), (15, 32), (16, 33)] (a' := ?_) 35 bz4_17 HT_.out (by kernel_rfl) (by kernel_rfl) (fun _ _ _ _ _ h => h) rfl ?_ ?_
     rotate_left
     ·simp only [putU, Act.put, s0_, s1_, s2_, i64_w, i32_w]
      rfl
     refine val_ (v := ?_) (a' := ?_) 17 34 bz4_18 rfl rfl HT_.out (by kernel_rfl) (by rfl) (fun _ _ _ h => h) ?_ ?_ ?_
     rotate_left
     ·intro w'
      go_simp
      with_reducible rfl
     rotate_left
     ·simp only [Act.put, s0_, s1_, s2_, i64_w, i32_w]
      rfl
     refine val_ (v := ?_) (a' := ?_) 18 35 bz4_19 rfl rfl HT_.out (by kernel_rfl) (by rfl) (fun _ _ _ h => h) ?_ ?_ ?_
     rotate_left
     ·intro w'
      go_simp
      with_reducible rfl
     rotate_left
     ·simp only [Act.put, s0_, s1_, s2_, i64_w, i32_w]
      rfl
     refine unds_ [(19, 36), (20, 37), (21, 38), (22, 39), (23, 40), (24, 41), (25, 42), (26, 43), (27, 44), (28, 45), (29, 46), (30, 47), (31, 48), (32, 49), (33, 50)] (a' := ?_) 18 bz4_20 HT_.out (by kernel_rfl) (by kernel_rfl) (fun _ _ _ _ _ h => h) rfl ?_ ?_
     rotate_left
     ·simp only [putU, Act.put, s0_, s1_, s2_, i64_w, i32_w]
      rfl
     refine val_ (v := ?_) (a' := ?_) 34 51 bz4_21 rfl rfl HT_.out (by kernel_rfl) (by rfl) (fun _ _ _ h => h) ?_ ?_ ?_
     rotate_left
     ·intro w'
      go_simp
      with_reducible rfl
     rotate_left
     ·simp only [Act.put, s0_, s1_, s2_, i64_w, i32_w]
      rfl
     refine val_ (v := ?_) (a' := ?_) 35 52 bz4_22 rfl rfl HT_.out (by kernel_rfl) (by rfl) (fun _ _ _ h => h) ?_ ?_ ?_
     rotate_left
     ·intro w'
      go_simp
      with_reducible rfl
     rotate_left
     ·simp only [Act.put, s0_, s1_, s2_, i64_w, i32_w]
      rfl
     refine unds_ [(36, 53), (37, 54), (38, 55), (39, 56), (40, 57), (41, 58), (42, 59), (43, 60), (44, 61), (45, 62), (46, 63), (47, 64), (48, 65), (49, 66), (50, 67)] (a' := ?_) 1 bz4_23 HT_.out (by kernel_rfl) (by kernel_rfl) (fun _ _ _ _ _ h => h) rfl ?_ ?_
     rotate_left
     ·simp only [putU, Act.put, s0_, s1_, s2_, i64_w, i32_w]
      rfl
     refine val_ (v := ?_) (a' := ?_) 51 68 bz4_24 rfl rfl HT_.out (by kernel_rfl) (by rfl) (fun _ _ _ h => h) ?_ ?_ ?_
     rotate_left
     ·intro w'
      go_simp
      with_reducible rfl
     rotate_left
     ·simp only [Act.put, s0_, s1_, s2_, i64_w, i32_w]
      rfl
     refine done_ (done_of HT_.out (by kernel_rfl)) ?_
     try go_wp2
     go_ret
     exact ⟨by first | rfl | (simp [errW_none, errW_some] <;> rfl) | (simp [*, errW_none, errW_some] <;> rfl), by repeat (first | exact HB.out | apply below_alloc | apply pw_below_drewN | apply below_drew1)⟩
    rw [if_pos c7] at H
    have c7b0 : (((rd_L1 l1 x12_1).length : Int) == 2) = true := beq_iff_eq.mpr c7
    have c7b1 : (((rd_L1 l1 x12_1).length : Int) != 2) = false := bne_eq_false_iff_eq.mpr c7
    clear c7
    replace H := Option.bind_eq_some_iff.mp H
    obtain ⟨t115, A80, H⟩ := H
    replace H : (if t115 = true then (if 0 < ((rd_L1 l1 x12_1).length : Int) then (if 1 < ((rd_L1 l1 x12_1).length : Int) then (if (rd (rd_L1 l1 x12_1) 0) = (rd (rd_L1 l1 x12_1) 1) then (some false) else (if 0 ≤ (rd (rd_L1 l1 x12_1) 0) then (if (rd (rd_L1 l1 x12_1) 0) < (l0.length : Int) then (if 0 ≤ (rd (rd_L1 l1 x12_1) 1) then (if (rd (rd_L1 l1 x12_1) 1) < (l0.length : Int) then (if ((rd_T93 l0 (rd (rd_L1 l1 x12_1) 0)).f2) = ((rd_T93 l0 (rd (rd_L1 l1 x12_1) 1)).f2) then (if x12_1 > 0 then (if 0 ≤ (wrap64 (x12_1 - 1)) then (if (wrap64 (x12_1 - 1)) < (l1.length : Int) then (if 0 < ((rd_L1 l1 (wrap64 (x12_1 - 1))).length : Int) then (if (rd (rd_L1 l1 x12_1) 0) ≤ (rd (rd_L1 l1 (wrap64 (x12_1 - 1))) 0) then (some false) else (impl_pairsOk.l0 k1 l0 l1 l1 (l1.length : Int) (wrap64 (x12_1 + 1)))) else (none)) else (none)) else (none)) else (impl_pairsOk.l0 k1 l0 l1 l1 (l1.length : Int) (wrap64 (x12_1 + 1)))) else (some false)) else (none)) else (none)) else (none)) else (none))) else (none)) else (none)) else (some false)) = some r := H
    have A8 := Aside0.mk A80
    clear A80
    by_cases c9 : t115 = true
    rotate_left
    ·replace c9 := Bool.eq_false_iff.mpr c9
     subst c9
     have H1 : (some false) = some r := by rw [if_neg (show ¬ (false = true) by decide)] at H; exact H
     clear H
     have H := H1
     clear H1
     obtain rfl := Option.some.inj H
     have p114 : 0 ≤ (x12_1 : Int) := of_decide_eq_true (by assumption)
     have q114 : x12_1 < (l1.length : Int) := of_decide_eq_true (by assumption)
     obtain ⟨ad114, A114_0, c114_0, e114, hx114_0, hl114_0, hi114_0⟩ := at_L1 HR1.out x12_1 p114 q114
     cases e114
     replace hx114_0 := (HB.out.cell (World.block_lt_of_cell? w _ hx114_0)).trans hx114_0
     have HR114_0 := Aside0.mk hi114_0
     have HC114_0 := Aside0.mk hl114_0
     clear hi114_0 hl114_0
     replace p114 := eq_true p114
     replace q114 := eq_true q114
     try go_wp2
     have n0_ := Aside0.mk (below_drew1 HB.out)
     clear HB
     have HB := n0_
     clear n0_
     refine start_ (n := 52) (S := fun w' => True) (ds := []) bz4_0 (by kernel_rfl) rfl rfl trivial (fun hHeld => ?_); refine with_tabW impl_pairsOk.tab6 impl_pairsOk.bits6 (fun HT_ HW_ => ?_)
     generalize wr.drew = w34 at HB hHeld ⊢
     refine val_ (v := ?_) (a' := ?_) 0 17 bz4_1 rfl rfl HT_.out (by kernel_rfl) (by rfl) (fun _ _ _ h => h) ?_ ?_ ?_
     rotate_left
     ·intro w'
      go_simp
      with_reducible rfl
     rotate_left
     ·simp only [Act.put, s0_, s1_, s2_, i64_w, i32_w]
      rfl
     refine val_ (v := ?_) (a' := ?_) 1 18 bz4_2 rfl rfl HT_.out (by kernel_rfl) (by rfl) (fun _ _ _ h => h) ?_ ?_ ?_
     rotate_left
     ·intro w'
      go_simp
      with_reducible rfl
     rotate_left
     ·simp only [Act.put, s0_, s1_, s2_, i64_w, i32_w]
      rfl
     refine val_ (v := ?_) (a' := ?_) 2 19 bz4_3 rfl rfl HT_.out (by kernel_rfl) (by rfl) (fun _ _ _ h => h) ?_ ?_ ?_
     rotate_left
     ·intro w'
      go_simp
      with_reducible rfl
     rotate_left
     ·simp only [Act.put, s0_, s1_, s2_, i64_w, i32_w]
      rfl
     refine val_ (v := ?_) (a' := ?_) 3 20 bz4_4 rfl rfl HT_.out (by kernel_rfl) (by rfl) (fun _ _ _ h => h) ?_ ?_ ?_
     rotate_left
     ·intro w'
      go_simp
      with_reducible rfl
     rotate_left
     ·simp only [Act.put, s0_, s1_, s2_, i64_w, i32_w]
      rfl
     refine val_ (v := ?_) (a' := ?_) 4 21 bz4_5 rfl rfl HT_.out (by kernel_rfl) (by rfl) (fun _ _ _ h => h) ?_ ?_ ?_
     rotate_left
     ·intro w'
      go_simp
      with_reducible rfl
     rotate_left
     ·simp only [Act.put, s0_, s1_, s2_, i64_w, i32_w]
      rfl
     refine val_ (v := ?_) (a' := ?_) 5 22 bz4_6 rfl rfl HT_.out (by kernel_rfl) (by rfl) (fun _ _ _ h => h) ?_ ?_ ?_
     rotate_left
     ·intro w'
      go_simp
      with_reducible rfl
     rotate_left
     ·simp only [Act.put, s0_, s1_, s2_, i64_w, i32_w]
      rfl
     refine one_ (i := 6) (N := some 23) bz4_7 rfl rfl (one_of HT_.out (by kernel_rfl)) (by decide) (fun K hK => ?_)
     refine goes_ Try.func53 (by kernel_rfl) rfl #[.slice A0 l0.length c0, .slice A114_0 (rd_L1 l1 x12_1).length c114_0] (by rfl) rfl rfl (by (try simp only [List.map_toArray, List.map_cons, List.map_nil]); first | done | rfl) ?_
     with_reducible refine (impl_composedOk.calls _ _ l0 _ _ (rd_L1 l1 x12_1) false _ ?side1 ?side2 ?side3 ?side4 A8.out).mono ?_
     (case side1 => exact (Kd.C_below HR0.out HB.out))
     (case side2 => exact HC0.out)
     (case side3 => exact (Kd.C_below HR114_0.out HB.out))
     (case side4 => exact HC114_0.out)
     rintro e w35 ⟨rfl, hb⟩
     refine ⟨_, rfl, ?_⟩
     have n0_ := Aside0.mk (below_step (by repeat (first | exact HB.out | apply below_alloc | apply pw_below_drewN | apply below_drew1)) hb)
     clear HB
     have HB := n0_
     clear n0_
     (try clear hb)
     (try clear hb2)
     (try clear hk)
     (try clear hi)
     refine hK.out _ _ trivial (fun hHeld => ?_)
     clear hK K
     refine norm_ (a' := ?_) ?_ ?_
     rotate_left
     ·show Act.put _ (some 23) _ = _
      simp only [Act.put, s0_, s1_, s2_, i64_w, i32_w]
      rfl
     refine val_ (v := ?_) (a' := ?_) 7 24 bz4_8 rfl rfl HT_.out (by kernel_rfl) (by rfl) (fun _ _ _ h => h) ?_ ?_ ?_
     rotate_left
     ·intro w'
      go_simp
      with_reducible rfl
     rotate_left
     ·simp only [Act.put, s0_, s1_, s2_, i64_w, i32_w]
      rfl
     refine val_ (v := ?_) (a' := ?_) 8 25 bz4_9 rfl rfl HT_.out (by kernel_rfl) (by rfl) (fun _ _ _ h => h) ?_ ?_ ?_
     rotate_left
     ·intro w'
      go_simp
      with_reducible rfl
     rotate_left
     ·simp only [Act.put, s0_, s1_, s2_, i64_w, i32_w]
      rfl
     refine val_ (v := ?_) (a' := ?_) 9 26 bz4_10 rfl rfl HT_.out (by kernel_rfl) (by rfl) (fun _ _ _ h => h) ?_ ?_ ?_
     rotate_left
     ·intro w'
      go_simp
      with_reducible rfl
     rotate_left
     ·simp only [Act.put, s0_, s1_, s2_, i64_w, i32_w]
      rfl
     refine unds_ [(10, 27), (11, 28), (12, 29), (13, 30), (14, 31), (15, 32), (16, 33)] (a' := ?_) 35 bz4_17 HT_.out (by kernel_rfl) (by kernel_rfl) (fun _ _ _ _ _ h => h) rfl ?_ ?_
     rotate_left
     ·simp only [putU, Act.put, s0_, s1_, s2_, i64_w, i32_w]
      rfl
     refine val_ (v := ?_) (a' := ?_) 17 34 bz4_18 rfl rfl HT_.out (by kernel_rfl) (by rfl) (fun _ _ _ h => h) ?_ ?_ ?_
     rotate_left
     ·intro w'
      go_simp
      with_reducible rfl
     rotate_left
     ·simp only [Act.put, s0_, s1_, s2_, i64_w, i32_w]
      rfl
     refine val_ (v := ?_) (a' := ?_) 18 35 bz4_19 rfl rfl HT_.out (by kernel_rfl) (by rfl) (fun _ _ _ h => h) ?_ ?_ ?_
     rotate_left
     ·intro w'
      go_simp
      with_reducible rfl
     rotate_left
     ·simp only [Act.put, s0_, s1_, s2_, i64_w, i32_w]
      rfl
     refine unds_ [(19, 36), (20, 37), (21, 38), (22, 39), (23, 40), (24, 41), (25, 42), (26, 43), (27, 44), (28, 45), (29, 46), (30, 47), (31, 48), (32, 49), (33, 50)] (a' := ?_) 18 bz4_20 HT_.out (by kernel_rfl) (by kernel_rfl) (fun _ _ _ _ _ h => h) rfl ?_ ?_
     rotate_left
     ·simp only [putU, Act.put, s0_, s1_, s2_, i64_w, i32_w]
      rfl
     refine val_ (v := ?_) (a' := ?_) 34 51 bz4_21 rfl rfl HT_.out (by kernel_rfl) (by rfl) (fun _ _ _ h => h) ?_ ?_ ?_
     rotate_left
     ·intro w'
      go_simp
      with_reducible rfl
     rotate_left
     ·simp only [Act.put, s0_, s1_, s2_, i64_w, i32_w]
      rfl
     refine val_ (v := ?_) (a' := ?_) 35 52 bz4_22 rfl rfl HT_.out (by kernel_rfl) (by rfl) (fun _ _ _ h => h) ?_ ?_ ?_
     rotate_left
     ·intro w'
      go_simp
      with_reducible rfl
     rotate_left
     ·simp only [Act.put, s0_, s1_, s2_, i64_w, i32_w]
      rfl
     refine unds_ [(36, 53), (37, 54), (38, 55), (39, 56), (40, 57), (41, 58), (42, 59), (43, 60), (44, 61), (45, 62), (46, 63), (47, 64), (48, 65), (49, 66), (50, 67)] (a' := ?_) 1 bz4_23 HT_.out (by kernel_rfl) (by kernel_rfl) (fun _ _ _ _ _ h => h) rfl ?_ ?_
     rotate_left
     ·simp only [putU, Act.put, s0_, s1_, s2_, i64_w, i32_w]
      rfl
     refine val_ (v := ?_) (a' := ?_) 51 68 bz4_24 rfl rfl HT_.out (by kernel_rfl) (by rfl) (fun _ _ _ h => h) ?_ ?_ ?_
     rotate_left
     ·intro w'
      go_simp
      with_reducible rfl
     rotate_left
     ·simp only [Act.put, s0_, s1_, s2_, i64_w, i32_w]
      rfl
     refine done_ (done_of HT_.out (by kernel_rfl)) ?_
     try go_wp2
     go_ret
     exact ⟨by first | rfl | (simp [errW_none, errW_some] <;> rfl) | (simp [*, errW_none, errW_some] <;> rfl), by repeat (first | exact HB.out | apply below_alloc | apply pw_below_drewN | apply below_drew1)⟩
    subst c9
    have H1 : (if 0 < ((rd_L1 l1 x12_1).length : Int) then (if 1 < ((rd_L1 l1 x12_1).length : Int) then (if (rd (rd_L1 l1 x12_1) 0) = (rd (rd_L1 l1 x12_1) 1) then (some false) else (if 0 ≤ (rd (rd_L1 l1 x12_1) 0) then (if (rd (rd_L1 l1 x12_1) 0) < (l0.length : Int) then (if 0 ≤ (rd (rd_L1 l1 x12_1) 1) then (if (rd (rd_L1 l1 x12_1) 1) < (l0.length : Int) then (if ((rd_T93 l0 (rd (rd_L1 l1 x12_1) 0)).f2) = ((rd_T93 l0 (rd (rd_L1 l1 x12_1) 1)).f2) then (if x12_1 > 0 then (if 0 ≤ (wrap64 (x12_1 - 1)) then (if (wrap64 (x12_1 - 1)) < (l1.length : Int) then (if 0 < ((rd_L1 l1 (wrap64 (x12_1 - 1))).length : Int) then (if (rd (rd_L1 l1 x12_1) 0) ≤ (rd (rd_L1 l1 (wrap64 (x12_1 - 1))) 0) then (some false) else (impl_pairsOk.l0 k1 l0 l1 l1 (l1.length : Int) (wrap64 (x12_1 + 1)))) else (none)) else (none)) else (none)) else (impl_pairsOk.l0 k1 l0 l1 l1 (l1.length : Int) (wrap64 (x12_1 + 1)))) else (some false)) else (none)) else (none)) else (none)) else (none))) else (none)) else (none)) = some r := by rw [if_pos rfl] at H; exact H
    clear H
    have H := H1
    clear H1
    by_cases c10 : 0 < ((rd_L1 l1 x12_1).length : Int)
    rotate_left
    ·rw [if_neg c10] at H
     exact absurd H (by simp)
    rw [if_pos c10] at H
    have c10b0 : decide (0 < ((rd_L1 l1 x12_1).length : Int)) = true := decide_eq_true c10
    have c10b1 : decide (0 < (rd_L1 l1 x12_1).length) = true := decide_eq_true (by omega)
    clear c10
    by_cases c11 : 1 < ((rd_L1 l1 x12_1).length : Int)
    rotate_left
    ·rw [if_neg c11] at H
     exact absurd H (by simp)
    rw [if_pos c11] at H
    have c11b0 : decide (1 < ((rd_L1 l1 x12_1).length : Int)) = true := decide_eq_true c11
    have c11b1 : decide (1 < (rd_L1 l1 x12_1).length) = true := decide_eq_true (by omega)
    clear c11
    by_cases c12 : (rd (rd_L1 l1 x12_1) 0) = (rd (rd_L1 l1 x12_1) 1)
    rotate_left
    ·rw [if_neg c12] at H
     have c12b0 : ((rd (rd_L1 l1 x12_1) 0) == (rd (rd_L1 l1 x12_1) 1)) = false := beq_eq_false_iff_ne.mpr c12
     have c12b1 : ((rd (rd_L1 l1 x12_1) 0) != (rd (rd_L1 l1 x12_1) 1)) = true := bne_iff_ne.mpr c12
     by_cases c15 : 0 ≤ (rd (rd_L1 l1 x12_1) 0)
     rotate_left
     ·rw [if_neg c15] at H
      exact absurd H (by simp)
     rw [if_pos c15] at H
     have c15b0 : decide (0 ≤ (rd (rd_L1 l1 x12_1) 0)) = true := decide_eq_true c15
     clear c15
     by_cases c16 : (rd (rd_L1 l1 x12_1) 0) < (l0.length : Int)
     rotate_left
     ·rw [if_neg c16] at H
      exact absurd H (by simp)
     rw [if_pos c16] at H
     have c16b0 : decide ((rd (rd_L1 l1 x12_1) 0) < (l0.length : Int)) = true := decide_eq_true c16
     clear c16
     by_cases c17 : 0 ≤ (rd (rd_L1 l1 x12_1) 1)
     rotate_left
     ·rw [if_neg c17] at H
      exact absurd H (by simp)
     rw [if_pos c17] at H
     have c17b0 : decide (0 ≤ (rd (rd_L1 l1 x12_1) 1)) = true := decide_eq_true c17
     clear c17
     by_cases c18 : (rd (rd_L1 l1 x12_1) 1) < (l0.length : Int)
     rotate_left
     ·rw [if_neg c18] at H
      exact absurd H (by simp)
     rw [if_pos c18] at H
     have c18b0 : decide ((rd (rd_L1 l1 x12_1) 1) < (l0.length : Int)) = true := decide_eq_true c18
     clear c18
     by_cases c19 : ((rd_T93 l0 (rd (rd_L1 l1 x12_1) 0)).f2) = ((rd_T93 l0 (rd (rd_L1 l1 x12_1) 1)).f2)
     rotate_left
     ·rw [if_neg c19] at H
      have c19b0 : (((rd_T93 l0 (rd (rd_L1 l1 x12_1) 0)).f2) == ((rd_T93 l0 (rd (rd_L1 l1 x12_1) 1)).f2)) = false := beq_eq_false_iff_ne.mpr c19
      have c19b1 : (((rd_T93 l0 (rd (rd_L1 l1 x12_1) 0)).f2) != ((rd_T93 l0 (rd (rd_L1 l1 x12_1) 1)).f2)) = true := bne_iff_ne.mpr c19
      obtain rfl := Option.some.inj H
      have p114 : 0 ≤ (x12_1 : Int) := of_decide_eq_true (by assumption)
      have q114 : x12_1 < (l1.length : Int) := of_decide_eq_true (by assumption)
      obtain ⟨ad114, A114_0, c114_0, e114, hx114_0, hl114_0, hi114_0⟩ := at_L1 HR1.out x12_1 p114 q114
      cases e114
      replace hx114_0 := (HB.out.cell (World.block_lt_of_cell? w _ hx114_0)).trans hx114_0
      have HR114_0 := Aside0.mk hi114_0
      have HC114_0 := Aside0.mk hl114_0
      clear hi114_0 hl114_0
      replace p114 := eq_true p114
      replace q114 := eq_true q114
      try go_wp2
      have n0_ := Aside0.mk (below_drew1 HB.out)
      clear HB
      have HB := n0_
      clear n0_
      have p116 : 0 ≤ (0 : Int) := (by omega)
      have q116 : 0 < ((rd_L1 l1 x12_1).length : Int) := of_decide_eq_true (by assumption)
      obtain ⟨ad116, e116, hx116_0⟩ := Kd.at_int HR114_0.out 0 p116 q116
      have hw116_0 := hx116_0
      (try rw [show ((0 : Int)).toNat = 0 from rfl] at hw116_0)
      (try rw [show 0 * 1 = 0 from rfl] at hw116_0)
      (try rw [Addr.add_zero'] at hw116_0)
      cases e116
      have qi116 : (0 < (rd_L1 l1 x12_1).length) = True := eq_true (by omega)
      (try rw [show ((0 : Int)).toNat = 0 from rfl] at hx116_0)
      (try rw [Addr.add_zero'] at hx116_0)
      replace hx116_0 := (HB.out.cell (World.block_lt_of_cell? w _ hx116_0)).trans hx116_0
      replace p116 := eq_true p116
      replace q116 := eq_true q116
      have p117 : 0 ≤ (1 : Int) := (by omega)
      have q117 : 1 < ((rd_L1 l1 x12_1).length : Int) := of_decide_eq_true (by assumption)
      obtain ⟨ad117, e117, hx117_0⟩ := Kd.at_int HR114_0.out 1 p117 q117
      have hw117_0 := hx117_0
      (try rw [show ((1 : Int)).toNat = 1 from rfl] at hw117_0)
      (try rw [show 1 * 1 = 1 from rfl] at hw117_0)
      (try simp only [Nat.reduceMul, Nat.reduceEqDiff, Go.Addr.add, ↓reduceIte] at hw117_0)
      obtain rfl : ad116 = ad117 := (by injection e117)
      (try simp only [show (1 : Int).toNat = 1 from rfl, Nat.reduceMul, Nat.reduceEqDiff, Go.Addr.add, ↓reduceIte] at hx117_0)
      have qi117 : (1 < (rd_L1 l1 x12_1).length) = True := eq_true (by omega)
      (try rw [show ((1 : Int)).toNat = 1 from rfl] at hx117_0)
      replace hx117_0 := (HB.out.cell (World.block_lt_of_cell? w _ hx117_0)).trans hx117_0
      replace p117 := eq_true p117
      replace q117 := eq_true q117
      have p118 : 0 ≤ (0 : Int) := (by omega)
      have q118 : 0 < ((rd_L1 l1 x12_1).length : Int) := of_decide_eq_true (by assumption)
      obtain ⟨ad118, e118, hx118_0⟩ := Kd.at_int HR114_0.out 0 p118 q118
      have hw118_0 := hx118_0
      (try rw [show ((0 : Int)).toNat = 0 from rfl] at hw118_0)
      (try rw [show 0 * 1 = 0 from rfl] at hw118_0)
      (try rw [Addr.add_zero'] at hw118_0)
      obtain rfl : ad116 = ad118 := (by injection e118)
      have qi118 : (0 < (rd_L1 l1 x12_1).length) = True := eq_true (by omega)
      (try rw [show ((0 : Int)).toNat = 0 from rfl] at hx118_0)
      (try rw [Addr.add_zero'] at hx118_0)
      replace hx118_0 := (HB.out.cell (World.block_lt_of_cell? w _ hx118_0)).trans hx118_0
      replace p118 := eq_true p118
      replace q118 := eq_true q118
      have p119 : 0 ≤ ((rd (rd_L1 l1 x12_1) 0) : Int) := of_decide_eq_true (by assumption)
      have q119 : (rd (rd_L1 l1 x12_1) 0) < (l0.length : Int) := of_decide_eq_true (by assumption)
      obtain ⟨ad119, e119, hx119_0, hx119_1, hx119_2⟩ := at_T93 HR0.out (rd (rd_L1 l1 x12_1) 0) p119 q119
      have hw119_2 := hx119_2
      have hw119_1 := hx119_1
      have hw119_0 := hx119_0
      cases e119
      replace hx119_0 := (HB.out.cell (World.block_lt_of_cell? w _ hx119_0)).trans hx119_0
      replace hx119_1 := (HB.out.cell (World.block_lt_of_cell? w _ hx119_1)).trans hx119_1
      replace hx119_2 := (HB.out.cell (World.block_lt_of_cell? w _ hx119_2)).trans hx119_2
      replace p119 := eq_true p119
      replace q119 := eq_true q119
      have p120 : 0 ≤ (1 : Int) := (by omega)
      have q120 : 1 < ((rd_L1 l1 x12_1).length : Int) := of_decide_eq_true (by assumption)
      obtain ⟨ad120, e120, hx120_0⟩ := Kd.at_int HR114_0.out 1 p120 q120
      have hw120_0 := hx120_0
      (try rw [show ((1 : Int)).toNat = 1 from rfl] at hw120_0)
      (try rw [show 1 * 1 = 1 from rfl] at hw120_0)
      (try simp only [Nat.reduceMul, Nat.reduceEqDiff, Go.Addr.add, ↓reduceIte] at hw120_0)
      obtain rfl : ad116 = ad120 := (by injection e120)
      (try simp only [show (1 : Int).toNat = 1 from rfl, Nat.reduceMul, Nat.reduceEqDiff, Go.Addr.add, ↓reduceIte] at hx120_0)
      have qi120 : (1 < (rd_L1 l1 x12_1).length) = True := eq_true (by omega)
      (try rw [show ((1 : Int)).toNat = 1 from rfl] at hx120_0)
      replace hx120_0 := (HB.out.cell (World.block_lt_of_cell? w _ hx120_0)).trans hx120_0
      replace p120 := eq_true p120
      replace q120 := eq_true q120
      have p121 : 0 ≤ ((rd (rd_L1 l1 x12_1) 1) : Int) := of_decide_eq_true (by assumption)
      have q121 : (rd (rd_L1 l1 x12_1) 1) < (l0.length : Int) := of_decide_eq_true (by assumption)
      obtain ⟨ad121, e121, hx121_0, hx121_1, hx121_2⟩ := at_T93 HR0.out (rd (rd_L1 l1 x12_1) 1) p121 q121
      have hw121_2 := hx121_2
      have hw121_1 := hx121_1
      have hw121_0 := hx121_0
      obtain rfl : ad119 = ad121 := (by injection e121)
      replace hx121_0 := (HB.out.cell (World.block_lt_of_cell? w _ hx121_0)).trans hx121_0
      replace hx121_1 := (HB.out.cell (World.block_lt_of_cell? w _ hx121_1)).trans hx121_1
      replace hx121_2 := (HB.out.cell (World.block_lt_of_cell? w _ hx121_2)).trans hx121_2
      replace p121 := eq_true p121
      replace q121 := eq_true q121
      refine start_ (n := 52) (S := fun w' => w'.cell? ad116 = some (.int .i64 (rd (rd_L1 l1 x12_1) 0)) ∧ w'.cell? ⟨ad116.block, ad116.off + 1, none⟩ = some (.int .i64 (rd (rd_L1 l1 x12_1) 1)) ∧ w'.cell? ad116 = some (.int .i64 (rd (rd_L1 l1 x12_1) 0)) ∧ w'.cell? (ad119.add (((rd (rd_L1 l1 x12_1) 0)).toNat * 3)) = some (.string ((rd_T93 l0 (rd (rd_L1 l1 x12_1) 0)).f0)) ∧ w'.cell? ⟨(ad119.add (((rd (rd_L1 l1 x12_1) 0)).toNat * 3)).block, (ad119.add (((rd (rd_L1 l1 x12_1) 0)).toNat * 3)).off + 1, none⟩ = some (.int .i64 ((rd_T93 l0 (rd (rd_L1 l1 x12_1) 0)).f1)) ∧ w'.cell? ⟨(ad119.add (((rd (rd_L1 l1 x12_1) 0)).toNat * 3)).block, (ad119.add (((rd (rd_L1 l1 x12_1) 0)).toNat * 3)).off + 2, none⟩ = some (.int .i64 ((rd_T93 l0 (rd (rd_L1 l1 x12_1) 0)).f2)) ∧ w'.cell? ⟨ad116.block, ad116.off + 1, none⟩ = some (.int .i64 (rd (rd_L1 l1 x12_1) 1)) ∧ w'.cell? (ad119.add (((rd (rd_L1 l1 x12_1) 1)).toNat * 3)) = some (.string ((rd_T93 l0 (rd (rd_L1 l1 x12_1) 1)).f0)) ∧ w'.cell? ⟨(ad119.add (((rd (rd_L1 l1 x12_1) 1)).toNat * 3)).block, (ad119.add (((rd (rd_L1 l1 x12_1) 1)).toNat * 3)).off + 1, none⟩ = some (.int .i64 ((rd_T93 l0 (rd (rd_L1 l1 x12_1) 1)).f1)) ∧ w'.cell? ⟨(ad119.add (((rd (rd_L1 l1 x12_1) 1)).toNat * 3)).block, (ad119.add (((rd (rd_L1 l1 x12_1) 1)).toNat * 3)).off + 2, none⟩ = some (.int .i64 ((rd_T93 l0 (rd (rd_L1 l1 x12_1) 1)).f2))) (ds := []) bz4_0 (by kernel_rfl) rfl rfl ⟨((HB.out.cell (World.block_lt_of_cell? w _ hw116_0)).trans hw116_0), ((HB.out.cell (World.block_lt_of_cell? w _ hw117_0)).trans hw117_0), ((HB.out.cell (World.block_lt_of_cell? w _ hw118_0)).trans hw118_0), ((HB.out.cell (World.block_lt_of_cell? w _ hw119_0)).trans hw119_0), ((HB.out.cell (World.block_lt_of_cell? w _ hw119_1)).trans hw119_1), ((HB.out.cell (World.block_lt_of_cell? w _ hw119_2)).trans hw119_2), ((HB.out.cell (World.block_lt_of_cell? w _ hw120_0)).trans hw120_0), ((HB.out.cell (World.block_lt_of_cell? w _ hw121_0)).trans hw121_0), ((HB.out.cell (World.block_lt_of_cell? w _ hw121_1)).trans hw121_1), ((HB.out.cell (World.block_lt_of_cell? w _ hw121_2)).trans hw121_2)⟩ (fun hHeld => ?_); refine with_tabW impl_pairsOk.tab6 impl_pairsOk.bits6 (fun HT_ HW_ => ?_)
      generalize wr.drew = w32 at HB hx116_0 hx117_0 hx118_0 hx119_0 hx119_1 hx119_2 hx120_0 hx121_0 hx121_1 hx121_2 hHeld ⊢
      refine val_ (v := ?_) (a' := ?_) 0 17 bz4_1 rfl rfl HT_.out (by kernel_rfl) (by rfl) (fun _ _ _ h => h) ?_ ?_ ?_
      rotate_left
      ·intro w'
       go_simp
       with_reducible rfl
      rotate_left
      ·simp only [Act.put, s0_, s1_, s2_, i64_w, i32_w]
       rfl
      refine val_ (v := ?_) (a' := ?_) 1 18 bz4_2 rfl rfl HT_.out (by kernel_rfl) (by rfl) (fun _ _ _ h => h) ?_ ?_ ?_
      rotate_left
      ·intro w'
       go_simp
       with_reducible rfl
      rotate_left
      ·simp only [Act.put, s0_, s1_, s2_, i64_w, i32_w]
       rfl
      refine val_ (v := ?_) (a' := ?_) 2 19 bz4_3 rfl rfl HT_.out (by kernel_rfl) (by rfl) (fun _ _ _ h => h) ?_ ?_ ?_
      rotate_left
      ·intro w'
       go_simp
       with_reducible rfl
      rotate_left
      ·simp only [Act.put, s0_, s1_, s2_, i64_w, i32_w]
       rfl
      refine val_ (v := ?_) (a' := ?_) 3 20 bz4_4 rfl rfl HT_.out (by kernel_rfl) (by rfl) (fun _ _ _ h => h) ?_ ?_ ?_
      rotate_left
      ·intro w'
       go_simp
       with_reducible rfl
      rotate_left
      ·simp only [Act.put, s0_, s1_, s2_, i64_w, i32_w]
       rfl
      refine val_ (v := ?_) (a' := ?_) 4 21 bz4_5 rfl rfl HT_.out (by kernel_rfl) (by rfl) (fun _ _ _ h => h) ?_ ?_ ?_
      rotate_left
      ·intro w'
       go_simp
       with_reducible rfl
      rotate_left
      ·simp only [Act.put, s0_, s1_, s2_, i64_w, i32_w]
       rfl
      refine val_ (v := ?_) (a' := ?_) 5 22 bz4_6 rfl rfl HT_.out (by kernel_rfl) (by rfl) (fun _ _ _ h => h) ?_ ?_ ?_
      rotate_left
      ·intro w'
       go_simp
       with_reducible rfl
      rotate_left
      ·simp only [Act.put, s0_, s1_, s2_, i64_w, i32_w]
       rfl
      refine one_ (i := 6) (N := some 23) bz4_7 rfl rfl (one_of HT_.out (by kernel_rfl)) (by decide) (fun K hK => ?_)
      refine goes_ Try.func53 (by kernel_rfl) rfl #[.slice (some ad119) l0.length c0, .slice (some ad116) (rd_L1 l1 x12_1).length c114_0] (by rfl) rfl rfl (by (try simp only [List.map_toArray, List.map_cons, List.map_nil]); first | done | rfl) ?_
      with_reducible refine (impl_composedOk.calls _ _ l0 _ _ (rd_L1 l1 x12_1) true _ ?side1 ?side2 ?side3 ?side4 A8.out).mono ?_
      (case side1 => exact (Kd.C_below HR0.out HB.out))
      (case side2 => exact HC0.out)
      (case side3 => exact (Kd.C_below HR114_0.out HB.out))
      (case side4 => exact HC114_0.out)
      rintro e w33 ⟨rfl, hb⟩
      refine ⟨_, rfl, ?_⟩
      have n0_ := Aside0.mk (below_step (by repeat (first | exact HB.out | apply below_alloc | apply pw_below_drewN | apply below_drew1)) hb)
      clear HB
      have HB := n0_
      clear n0_
      (try clear hb)
      (try clear hb2)
      (try clear hk)
      (try clear hi)
      refine hK.out _ _ ⟨((HB.out.cell (World.block_lt_of_cell? w _ hw116_0)).trans hw116_0), ((HB.out.cell (World.block_lt_of_cell? w _ hw117_0)).trans hw117_0), ((HB.out.cell (World.block_lt_of_cell? w _ hw118_0)).trans hw118_0), ((HB.out.cell (World.block_lt_of_cell? w _ hw119_0)).trans hw119_0), ((HB.out.cell (World.block_lt_of_cell? w _ hw119_1)).trans hw119_1), ((HB.out.cell (World.block_lt_of_cell? w _ hw119_2)).trans hw119_2), ((HB.out.cell (World.block_lt_of_cell? w _ hw120_0)).trans hw120_0), ((HB.out.cell (World.block_lt_of_cell? w _ hw121_0)).trans hw121_0), ((HB.out.cell (World.block_lt_of_cell? w _ hw121_1)).trans hw121_1), ((HB.out.cell (World.block_lt_of_cell? w _ hw121_2)).trans hw121_2)⟩ (fun hHeld => ?_)
      clear hK K
      refine norm_ (a' := ?_) ?_ ?_
      rotate_left
      ·show Act.put _ (some 23) _ = _
       simp only [Act.put, s0_, s1_, s2_, i64_w, i32_w]
       rfl
      refine val_ (v := ?_) (a' := ?_) 7 24 bz4_8 rfl rfl HT_.out (by kernel_rfl) (by rfl) (fun _ _ _ h => h) ?_ ?_ ?_
      rotate_left
      ·intro w'
       go_simp
       with_reducible rfl
      rotate_left
      ·simp only [Act.put, s0_, s1_, s2_, i64_w, i32_w]
       rfl
      refine val_ (v := ?_) (a' := ?_) 8 25 bz4_9 rfl rfl HT_.out (by kernel_rfl) (by rfl) (fun _ _ _ h => h) ?_ ?_ ?_
      rotate_left
      ·intro w'
       go_simp
       with_reducible rfl
      rotate_left
      ·simp only [Act.put, s0_, s1_, s2_, i64_w, i32_w]
       rfl
      refine val_ (v := ?_) (a' := ?_) 9 26 bz4_10 rfl rfl HT_.out (by kernel_rfl) (by rfl) (fun _ _ _ h => h) ?_ ?_ ?_
      rotate_left
      ·intro w'
       go_simp
       with_reducible rfl
      rotate_left
      ·simp only [Act.put, s0_, s1_, s2_, i64_w, i32_w]
       rfl
      refine val_ (v := ?_) (a' := ?_) 10 27 bz4_11 rfl rfl HT_.out (by kernel_rfl) (by rfl) (fun _ _ _ h => h) ?_ ?_ ?_
      rotate_left
      ·intro w'
       go_simp
       with_reducible rfl
      rotate_left
      ·simp only [Act.put, s0_, s1_, s2_, i64_w, i32_w]
       rfl
      refine val_ (v := ?_) (a' := ?_) 11 28 bz4_12 rfl rfl HT_.out (by kernel_rfl) (by rfl) (fun _ _ _ h => h) ?_ ?_ ?_
      rotate_left
      ·intro w'
       go_simp
       with_reducible rfl
      rotate_left
      ·simp only [Act.put, s0_, s1_, s2_, i64_w, i32_w]
       rfl
      refine val_ (v := ?_) (a' := ?_) 13 30 bz4_13 rfl rfl HT_.out (by kernel_rfl) (by rfl) (fun _ _ _ h => h) ?_ ?_ ?_
      rotate_left
      ·intro w'
       go_simp
       with_reducible rfl
      rotate_left
      ·simp only [Act.put, s0_, s1_, s2_, i64_w, i32_w]
       rfl
      refine val_ (v := ?_) (a' := ?_) 14 31 bz4_14 rfl rfl HT_.out (by kernel_rfl) (by rfl) (fun _ _ _ h => h) ?_ ?_ ?_
      rotate_left
      ·intro w'
       go_simp
       with_reducible rfl
      rotate_left
      ·simp only [Act.put, s0_, s1_, s2_, i64_w, i32_w]
       rfl
      refine take_ (i := 12) (N := some 29) (v := ?_) (a' := ?_) bz4_15 rfl rfl (take_ofW HT_.out HW_.out (by kernel_rfl)) (fun _ _ _ h => h) (Or.inl ⟨by rfl, ?_⟩) hHeld ?_ ?_
      rotate_left
      ·rintro w' ⟨s0, s1, s2, s3, s4, s5, s6, s7, s8, s9⟩
       go_simp
       with_reducible rfl
      rotate_left
      ·simp only [Act.put, s0_, s1_, s2_, i64_w, i32_w]
       rfl
      refine take_ (i := 15) (N := some 32) (v := ?_) (a' := ?_) bz4_16 rfl rfl (take_ofW HT_.out HW_.out (by kernel_rfl)) (fun _ _ _ h => h) (Or.inl ⟨by rfl, ?_⟩) hHeld ?_ ?_
      rotate_left
      ·rintro w' ⟨s0, s1, s2, s3, s4, s5, s6, s7, s8, s9⟩
       go_simp
       with_reducible rfl
      rotate_left
      ·simp only [Act.put, s0_, s1_, s2_, i64_w, i32_w]
       rfl
      refine val_ (v := ?_) (a' := ?_) 16 33 bz4_17 rfl rfl HT_.out (by kernel_rfl) (by rfl) (fun _ _ _ h => h) ?_ ?_ ?_
      rotate_left
      ·intro w'
       go_simp
       with_reducible rfl
      rotate_left
      ·simp only [Act.put, s0_, s1_, s2_, i64_w, i32_w]
       rfl
      refine val_ (v := ?_) (a' := ?_) 17 34 bz4_18 rfl rfl HT_.out (by kernel_rfl) (by rfl) (fun _ _ _ h => h) ?_ ?_ ?_
      rotate_left
      ·intro w'
       go_simp
       with_reducible rfl
      rotate_left
      ·simp only [Act.put, s0_, s1_, s2_, i64_w, i32_w]
       rfl
      refine val_ (v := ?_) (a' := ?_) 18 35 bz4_19 rfl rfl HT_.out (by kernel_rfl) (by rfl) (fun _ _ _ h => h) ?_ ?_ ?_
      rotate_left
      ·intro w'
       go_simp
       with_reducible rfl
      rotate_left
      ·simp only [Act.put, s0_, s1_, s2_, i64_w, i32_w]
       rfl
      refine val_ (v := ?_) (a' := ?_) 19 36 bz4_25 rfl rfl HT_.out (by kernel_rfl) (by rfl) (fun _ _ _ h => h) ?_ ?_ ?_
      rotate_left
      ·intro w'
       go_simp
       with_reducible rfl
      rotate_left
      ·simp only [Act.put, s0_, s1_, s2_, i64_w, i32_w]
       rfl
      refine val_ (v := ?_) (a' := ?_) 20 37 bz4_26 rfl rfl HT_.out (by kernel_rfl) (by rfl) (fun _ _ _ h => h) ?_ ?_ ?_
      rotate_left
      ·intro w'
       go_simp
       with_reducible rfl
      rotate_left
      ·simp only [Act.put, s0_, s1_, s2_, i64_w, i32_w]
       rfl
      refine val_ (v := ?_) (a' := ?_) 21 38 bz4_27 rfl rfl HT_.out (by kernel_rfl) (by rfl) (fun _ _ _ h => h) ?_ ?_ ?_
      rotate_left
      ·intro w'
       go_simp
       with_reducible rfl
      rotate_left
      ·simp only [Act.put, s0_, s1_, s2_, i64_w, i32_w]
       rfl
      refine val_ (v := ?_) (a' := ?_) 26 43 bz4_28 rfl rfl HT_.out (by kernel_rfl) (by rfl) (fun _ _ _ h => h) ?_ ?_ ?_
      rotate_left
      ·intro w'
       go_simp
       with_reducible rfl
      rotate_left
      ·simp only [Act.put, s0_, s1_, s2_, i64_w, i32_w]
       rfl
      refine val_ (v := ?_) (a' := ?_) 27 44 bz4_29 rfl rfl HT_.out (by kernel_rfl) (by rfl) (fun _ _ _ h => h) ?_ ?_ ?_
      rotate_left
      ·intro w'
       go_simp
       with_reducible rfl
      rotate_left
      ·simp only [Act.put, s0_, s1_, s2_, i64_w, i32_w]
       rfl
      refine val_ (v := ?_) (a' := ?_) 28 45 bz4_30 rfl rfl HT_.out (by kernel_rfl) (by rfl) (fun _ _ _ h => h) ?_ ?_ ?_
      rotate_left
      ·intro w'
       go_simp
       with_reducible rfl
      rotate_left
      ·simp only [Act.put, s0_, s1_, s2_, i64_w, i32_w]
       rfl
      refine take_ (i := 22) (N := some 39) (v := ?_) (a' := ?_) bz4_31 rfl rfl (take_ofW HT_.out HW_.out (by kernel_rfl)) (fun _ _ _ h => h) (Or.inl ⟨by rfl, ?_⟩) hHeld ?_ ?_
      rotate_left
      ·rintro w' ⟨s0, s1, s2, s3, s4, s5, s6, s7, s8, s9⟩
       go_simp
       with_reducible rfl
      rotate_left
      ·simp only [Act.put, s0_, s1_, s2_, i64_w, i32_w]
       rfl
      refine val_ (v := ?_) (a' := ?_) 23 40 bz4_32 rfl rfl HT_.out (by kernel_rfl) (by rfl) (fun _ _ _ h => h) ?_ ?_ ?_
      rotate_left
      ·intro w'
       go_simp
       with_reducible rfl
      rotate_left
      ·simp only [Act.put, s0_, s1_, s2_, i64_w, i32_w]
       rfl
      refine val_ (v := ?_) (a' := ?_) 24 41 bz4_33 rfl rfl HT_.out (by kernel_rfl) (by rfl) (fun _ _ _ h => h) ?_ ?_ ?_
      rotate_left
      ·intro w'
       go_simp
       with_reducible rfl
      rotate_left
      ·simp only [Act.put, s0_, s1_, s2_, i64_w, i32_w]
       rfl
      refine take_ (i := 25) (N := some 42) (v := ?_) (a' := ?_) bz4_34 rfl rfl (take_ofW HT_.out HW_.out (by kernel_rfl)) (fun _ _ _ h => h) (Or.inl ⟨by rfl, ?_⟩) hHeld ?_ ?_
      rotate_left
      ·rintro w' ⟨s0, s1, s2, s3, s4, s5, s6, s7, s8, s9⟩
       go_simp
       with_reducible rfl
      rotate_left
      ·simp only [Act.put, s0_, s1_, s2_, i64_w, i32_w]
       rfl
      refine take_ (i := 29) (N := some 46) (v := ?_) (a' := ?_) bz4_35 rfl rfl (take_ofW HT_.out HW_.out (by kernel_rfl)) (fun _ _ _ h => h) (Or.inl ⟨by rfl, ?_⟩) hHeld ?_ ?_
      rotate_left
      ·rintro w' ⟨s0, s1, s2, s3, s4, s5, s6, s7, s8, s9⟩
       go_simp
       with_reducible rfl
      rotate_left
      ·simp only [Act.put, s0_, s1_, s2_, i64_w, i32_w]
       rfl
      refine val_ (v := ?_) (a' := ?_) 30 47 bz4_36 rfl rfl HT_.out (by kernel_rfl) (by rfl) (fun _ _ _ h => h) ?_ ?_ ?_
      rotate_left
      ·intro w'
       go_simp
       with_reducible rfl
      rotate_left
      ·simp only [Act.put, s0_, s1_, s2_, i64_w, i32_w]
       rfl
      refine val_ (v := ?_) (a' := ?_) 31 48 bz4_37 rfl rfl HT_.out (by kernel_rfl) (by rfl) (fun _ _ _ h => h) ?_ ?_ ?_
      rotate_left
      ·intro w'
       go_simp
       with_reducible rfl
      rotate_left
      ·simp only [Act.put, s0_, s1_, s2_, i64_w, i32_w]
       rfl
      refine take_ (i := 32) (N := some 49) (v := ?_) (a' := ?_) bz4_38 rfl rfl (take_ofW HT_.out HW_.out (by kernel_rfl)) (fun _ _ _ h => h) (Or.inl ⟨by rfl, ?_⟩) hHeld ?_ ?_
      rotate_left
      ·rintro w' ⟨s0, s1, s2, s3, s4, s5, s6, s7, s8, s9⟩
       go_simp
       with_reducible rfl
      rotate_left
      ·simp only [Act.put, s0_, s1_, s2_, i64_w, i32_w]
       rfl
      refine val_ (v := ?_) (a' := ?_) 33 50 bz4_20 rfl rfl HT_.out (by kernel_rfl) (by rfl) (fun _ _ _ h => h) ?_ ?_ ?_
      rotate_left
      ·intro w'
       go_simp
       with_reducible rfl
      rotate_left
      ·simp only [Act.put, s0_, s1_, s2_, i64_w, i32_w]
       rfl
      refine val_ (v := ?_) (a' := ?_) 34 51 bz4_21 rfl rfl HT_.out (by kernel_rfl) (by rfl) (fun _ _ _ h => h) ?_ ?_ ?_
      rotate_left
      ·intro w'
       go_simp
       with_reducible rfl
      rotate_left
      ·simp only [Act.put, s0_, s1_, s2_, i64_w, i32_w]
       rfl
      refine val_ (v := ?_) (a' := ?_) 35 52 bz4_22 rfl rfl HT_.out (by kernel_rfl) (by rfl) (fun _ _ _ h => h) ?_ ?_ ?_
      rotate_left
      ·intro w'
       go_simp
       with_reducible rfl
      rotate_left
      ·simp only [Act.put, s0_, s1_, s2_, i64_w, i32_w]
       rfl
      refine unds_ [(36, 53), (37, 54), (38, 55), (39, 56), (40, 57), (41, 58), (42, 59), (43, 60), (44, 61), (45, 62), (46, 63), (47, 64), (48, 65), (49, 66), (50, 67)] (a' := ?_) 1 bz4_23 HT_.out (by kernel_rfl) (by kernel_rfl) (fun _ _ _ _ _ h => h) rfl ?_ ?_
      rotate_left
      ·simp only [putU, Act.put, s0_, s1_, s2_, i64_w, i32_w]
       rfl
      refine val_ (v := ?_) (a' := ?_) 51 68 bz4_24 rfl rfl HT_.out (by kernel_rfl) (by rfl) (fun _ _ _ h => h) ?_ ?_ ?_
      rotate_left
      ·intro w'
       go_simp
       with_reducible rfl
      rotate_left
      ·simp only [Act.put, s0_, s1_, s2_, i64_w, i32_w]
       rfl
      refine done_ (done_of HT_.out (by kernel_rfl)) ?_
      try go_wp2
      go_ret
      exact ⟨by first | rfl | (simp [errW_none, errW_some] <;> rfl) | (simp [*, errW_none, errW_some] <;> rfl), by repeat (first | exact HB.out | apply below_alloc | apply pw_below_drewN | apply below_drew1)⟩
     rw [if_pos c19] at H
     have c19b0 : (((rd_T93 l0 (rd (rd_L1 l1 x12_1) 0)).f2) == ((rd_T93 l0 (rd (rd_L1 l1 x12_1) 1)).f2)) = true := beq_iff_eq.mpr c19
     have c19b1 : (((rd_T93 l0 (rd (rd_L1 l1 x12_1) 0)).f2) != ((rd_T93 l0 (rd (rd_L1 l1 x12_1) 1)).f2)) = false := bne_eq_false_iff_eq.mpr c19
     clear c19
     by_cases c20 : x12_1 > 0
     rotate_left
     ·rw [if_neg c20] at H
      have c20b0 : decide (0 < x12_1) = false := decide_eq_false c20
      clear c20
      have H' := Aside0.mk H
      clear H
      have p114 : 0 ≤ (x12_1 : Int) := of_decide_eq_true (by assumption)
      have q114 : x12_1 < (l1.length : Int) := of_decide_eq_true (by assumption)
      obtain ⟨ad114, A114_0, c114_0, e114, hx114_0, hl114_0, hi114_0⟩ := at_L1 HR1.out x12_1 p114 q114
      cases e114
      replace hx114_0 := (HB.out.cell (World.block_lt_of_cell? w _ hx114_0)).trans hx114_0
      have HR114_0 := Aside0.mk hi114_0
      have HC114_0 := Aside0.mk hl114_0
      clear hi114_0 hl114_0
      replace p114 := eq_true p114
      replace q114 := eq_true q114
      try go_wp2
      have n0_ := Aside0.mk (below_drew1 HB.out)
      clear HB
      have HB := n0_
      clear n0_
      have p116 : 0 ≤ (0 : Int) := (by omega)
      have q116 : 0 < ((rd_L1 l1 x12_1).length : Int) := of_decide_eq_true (by assumption)
      obtain ⟨ad116, e116, hx116_0⟩ := Kd.at_int HR114_0.out 0 p116 q116
      have hw116_0 := hx116_0
      (try rw [show ((0 : Int)).toNat = 0 from rfl] at hw116_0)
      (try rw [show 0 * 1 = 0 from rfl] at hw116_0)
      (try rw [Addr.add_zero'] at hw116_0)
      cases e116
      have qi116 : (0 < (rd_L1 l1 x12_1).length) = True := eq_true (by omega)
      (try rw [show ((0 : Int)).toNat = 0 from rfl] at hx116_0)
      (try rw [Addr.add_zero'] at hx116_0)
      replace hx116_0 := (HB.out.cell (World.block_lt_of_cell? w _ hx116_0)).trans hx116_0
      replace p116 := eq_true p116
      replace q116 := eq_true q116
      have p117 : 0 ≤ (1 : Int) := (by omega)
      have q117 : 1 < ((rd_L1 l1 x12_1).length : Int) := of_decide_eq_true (by assumption)
      obtain ⟨ad117, e117, hx117_0⟩ := Kd.at_int HR114_0.out 1 p117 q117
      have hw117_0 := hx117_0
      (try rw [show ((1 : Int)).toNat = 1 from rfl] at hw117_0)
      (try rw [show 1 * 1 = 1 from rfl] at hw117_0)
      (try simp only [Nat.reduceMul, Nat.reduceEqDiff, Go.Addr.add, ↓reduceIte] at hw117_0)
      obtain rfl : ad116 = ad117 := (by injection e117)
      (try simp only [show (1 : Int).toNat = 1 from rfl, Nat.reduceMul, Nat.reduceEqDiff, Go.Addr.add, ↓reduceIte] at hx117_0)
      have qi117 : (1 < (rd_L1 l1 x12_1).length) = True := eq_true (by omega)
      (try rw [show ((1 : Int)).toNat = 1 from rfl] at hx117_0)
      replace hx117_0 := (HB.out.cell (World.block_lt_of_cell? w _ hx117_0)).trans hx117_0
      replace p117 := eq_true p117
      replace q117 := eq_true q117
      have p118 : 0 ≤ (0 : Int) := (by omega)
      have q118 : 0 < ((rd_L1 l1 x12_1).length : Int) := of_decide_eq_true (by assumption)
      obtain ⟨ad118, e118, hx118_0⟩ := Kd.at_int HR114_0.out 0 p118 q118
      have hw118_0 := hx118_0
      (try rw [show ((0 : Int)).toNat = 0 from rfl] at hw118_0)
      (try rw [show 0 * 1 = 0 from rfl] at hw118_0)
      (try rw [Addr.add_zero'] at hw118_0)
      obtain rfl : ad116 = ad118 := (by injection e118)
      have qi118 : (0 < (rd_L1 l1 x12_1).length) = True := eq_true (by omega)
      (try rw [show ((0 : Int)).toNat = 0 from rfl] at hx118_0)
      (try rw [Addr.add_zero'] at hx118_0)
      replace hx118_0 := (HB.out.cell (World.block_lt_of_cell? w _ hx118_0)).trans hx118_0
      replace p118 := eq_true p118
      replace q118 := eq_true q118
      have p119 : 0 ≤ ((rd (rd_L1 l1 x12_1) 0) : Int) := of_decide_eq_true (by assumption)
      have q119 : (rd (rd_L1 l1 x12_1) 0) < (l0.length : Int) := of_decide_eq_true (by assumption)
      obtain ⟨ad119, e119, hx119_0, hx119_1, hx119_2⟩ := at_T93 HR0.out (rd (rd_L1 l1 x12_1) 0) p119 q119
      have hw119_2 := hx119_2
      have hw119_1 := hx119_1
      have hw119_0 := hx119_0
      cases e119
      replace hx119_0 := (HB.out.cell (World.block_lt_of_cell? w _ hx119_0)).trans hx119_0
      replace hx119_1 := (HB.out.cell (World.block_lt_of_cell? w _ hx119_1)).trans hx119_1
      replace hx119_2 := (HB.out.cell (World.block_lt_of_cell? w _ hx119_2)).trans hx119_2
      replace p119 := eq_true p119
      replace q119 := eq_true q119
      have p120 : 0 ≤ (1 : Int) := (by omega)
      have q120 : 1 < ((rd_L1 l1 x12_1).length : Int) := of_decide_eq_true (by assumption)
      obtain ⟨ad120, e120, hx120_0⟩ := Kd.at_int HR114_0.out 1 p120 q120
      have hw120_0 := hx120_0
      (try rw [show ((1 : Int)).toNat = 1 from rfl] at hw120_0)
      (try rw [show 1 * 1 = 1 from rfl] at hw120_0)
      (try simp only [Nat.reduceMul, Nat.reduceEqDiff, Go.Addr.add, ↓reduceIte] at hw120_0)
      obtain rfl : ad116 = ad120 := (by injection e120)
      (try simp only [show (1 : Int).toNat = 1 from rfl, Nat.reduceMul, Nat.reduceEqDiff, Go.Addr.add, ↓reduceIte] at hx120_0)
      have qi120 : (1 < (rd_L1 l1 x12_1).length) = True := eq_true (by omega)
      (try rw [show ((1 : Int)).toNat = 1 from rfl] at hx120_0)
      replace hx120_0 := (HB.out.cell (World.block_lt_of_cell? w _ hx120_0)).trans hx120_0
      replace p120 := eq_true p120
      replace q120 := eq_true q120
      have p121 : 0 ≤ ((rd (rd_L1 l1 x12_1) 1) : Int) := of_decide_eq_true (by assumption)
      have q121 : (rd (rd_L1 l1 x12_1) 1) < (l0.length : Int) := of_decide_eq_true (by assumption)
      obtain ⟨ad121, e121, hx121_0, hx121_1, hx121_2⟩ := at_T93 HR0.out (rd (rd_L1 l1 x12_1) 1) p121 q121
      have hw121_2 := hx121_2
      have hw121_1 := hx121_1
      have hw121_0 := hx121_0
      obtain rfl : ad119 = ad121 := (by injection e121)
      replace hx121_0 := (HB.out.cell (World.block_lt_of_cell? w _ hx121_0)).trans hx121_0
      replace hx121_1 := (HB.out.cell (World.block_lt_of_cell? w _ hx121_1)).trans hx121_1
      replace hx121_2 := (HB.out.cell (World.block_lt_of_cell? w _ hx121_2)).trans hx121_2
      replace p121 := eq_true p121
      replace q121 := eq_true q121
      refine start_ (n := 52) (S := fun w' => w'.cell? ad116 = some (.int .i64 (rd (rd_L1 l1 x12_1) 0)) ∧ w'.cell? ⟨ad116.block, ad116.off + 1, none⟩ = some (.int .i64 (rd (rd_L1 l1 x12_1) 1)) ∧ w'.cell? ad116 = some (.int .i64 (rd (rd_L1 l1 x12_1) 0)) ∧ w'.cell? (ad119.add (((rd (rd_L1 l1 x12_1) 0)).toNat * 3)) = some (.string ((rd_T93 l0 (rd (rd_L1 l1 x12_1) 0)).f0)) ∧ w'.cell? ⟨(ad119.add (((rd (rd_L1 l1 x12_1) 0)).toNat * 3)).block, (ad119.add (((rd (rd_L1 l1 x12_1) 0)).toNat * 3)).off + 1, none⟩ = some (.int .i64 ((rd_T93 l0 (rd (rd_L1 l1 x12_1) 0)).f1)) ∧ w'.cell? ⟨(ad119.add (((rd (rd_L1 l1 x12_1) 0)).toNat * 3)).block, (ad119.add (((rd (rd_L1 l1 x12_1) 0)).toNat * 3)).off + 2, none⟩ = some (.int .i64 ((rd_T93 l0 (rd (rd_L1 l1 x12_1) 0)).f2)) ∧ w'.cell? ⟨ad116.block, ad116.off + 1, none⟩ = some (.int .i64 (rd (rd_L1 l1 x12_1) 1)) ∧ w'.cell? (ad119.add (((rd (rd_L1 l1 x12_1) 1)).toNat * 3)) = some (.string ((rd_T93 l0 (rd (rd_L1 l1 x12_1) 1)).f0)) ∧ w'.cell? ⟨(ad119.add (((rd (rd_L1 l1 x12_1) 1)).toNat * 3)).block, (ad119.add (((rd (rd_L1 l1 x12_1) 1)).toNat * 3)).off + 1, none⟩ = some (.int .i64 ((rd_T93 l0 (rd (rd_L1 l1 x12_1) 1)).f1)) ∧ w'.cell? ⟨(ad119.add (((rd (rd_L1 l1 x12_1) 1)).toNat * 3)).block, (ad119.add (((rd (rd_L1 l1 x12_1) 1)).toNat * 3)).off + 2, none⟩ = some (.int .i64 ((rd_T93 l0 (rd (rd_L1 l1 x12_1) 1)).f2))) (ds := []) bz4_0 (by kernel_rfl) rfl rfl ⟨((HB.out.cell (World.block_lt_of_cell? w _ hw116_0)).trans hw116_0), ((HB.out.cell (World.block_lt_of_cell? w _ hw117_0)).trans hw117_0), ((HB.out.cell (World.block_lt_of_cell? w _ hw118_0)).trans hw118_0), ((HB.out.cell (World.block_lt_of_cell? w _ hw119_0)).trans hw119_0), ((HB.out.cell (World.block_lt_of_cell? w _ hw119_1)).trans hw119_1), ((HB.out.cell (World.block_lt_of_cell? w _ hw119_2)).trans hw119_2), ((HB.out.cell (World.block_lt_of_cell? w _ hw120_0)).trans hw120_0), ((HB.out.cell (World.block_lt_of_cell? w _ hw121_0)).trans hw121_0), ((HB.out.cell (World.block_lt_of_cell? w _ hw121_1)).trans hw121_1), ((HB.out.cell (World.block_lt_of_cell? w _ hw121_2)).trans hw121_2)⟩ (fun hHeld => ?_); refine with_tabW impl_pairsOk.tab6 impl_pairsOk.bits6 (fun HT_ HW_ => ?_)
      generalize wr.drew = w30 at HB hx116_0 hx117_0 hx118_0 hx119_0 hx119_1 hx119_2 hx120_0 hx121_0 hx121_1 hx121_2 hHeld ⊢
      refine val_ (v := ?_) (a' := ?_) 0 17 bz4_1 rfl rfl HT_.out (by kernel_rfl) (by rfl) (fun _ _ _ h => h) ?_ ?_ ?_
      rotate_left
      ·intro w'
       go_simp
       with_reducible rfl
      rotate_left
      ·simp only [Act.put, s0_, s1_, s2_, i64_w, i32_w]
       rfl
      refine val_ (v := ?_) (a' := ?_) 1 18 bz4_2 rfl rfl HT_.out (by kernel_rfl) (by rfl) (fun _ _ _ h => h) ?_ ?_ ?_
      rotate_left
      ·intro w'
       go_simp
       with_reducible rfl
      rotate_left
      ·simp only [Act.put, s0_, s1_, s2_, i64_w, i32_w]
       rfl
      refine val_ (v := ?_) (a' := ?_) 2 19 bz4_3 rfl rfl HT_.out (by kernel_rfl) (by rfl) (fun _ _ _ h => h) ?_ ?_ ?_
      rotate_left
      ·intro w'
       go_simp
       with_reducible rfl
      rotate_left
      ·simp only [Act.put, s0_, s1_, s2_, i64_w, i32_w]
       rfl
      refine val_ (v := ?_) (a' := ?_) 3 20 bz4_4 rfl rfl HT_.out (by kernel_rfl) (by rfl) (fun _ _ _ h => h) ?_ ?_ ?_
      rotate_left
      ·intro w'
       go_simp
       with_reducible rfl
      rotate_left
      ·simp only [Act.put, s0_, s1_, s2_, i64_w, i32_w]
       rfl
      refine val_ (v := ?_) (a' := ?_) 4 21 bz4_5 rfl rfl HT_.out (by kernel_rfl) (by rfl) (fun _ _ _ h => h) ?_ ?_ ?_
      rotate_left
      ·intro w'
       go_simp
       with_reducible rfl
      rotate_left
      ·simp only [Act.put, s0_, s1_, s2_, i64_w, i32_w]
       rfl
      refine val_ (v := ?_) (a' := ?_) 5 22 bz4_6 rfl rfl HT_.out (by kernel_rfl) (by rfl) (fun _ _ _ h => h) ?_ ?_ ?_
      rotate_left
      ·intro w'
       go_simp
       with_reducible rfl
      rotate_left
      ·simp only [Act.put, s0_, s1_, s2_, i64_w, i32_w]
       rfl
      refine one_ (i := 6) (N := some 23) bz4_7 rfl rfl (one_of HT_.out (by kernel_rfl)) (by decide) (fun K hK => ?_)
      refine goes_ Try.func53 (by kernel_rfl) rfl #[.slice (some ad119) l0.length c0, .slice (some ad116) (rd_L1 l1 x12_1).length c114_0] (by rfl) rfl rfl (by (try simp only [List.map_toArray, List.map_cons, List.map_nil]); first | done | rfl) ?_
      with_reducible refine (impl_composedOk.calls _ _ l0 _ _ (rd_L1 l1 x12_1) true _ ?side1 ?side2 ?side3 ?side4 A8.out).mono ?_
      (case side1 => exact (Kd.C_below HR0.out HB.out))
      (case side2 => exact HC0.out)
      (case side3 => exact (Kd.C_below HR114_0.out HB.out))
      (case side4 => exact HC114_0.out)
      rintro e w31 ⟨rfl, hb⟩
      refine ⟨_, rfl, ?_⟩
      have n0_ := Aside0.mk (below_step (by repeat (first | exact HB.out | apply below_alloc | apply pw_below_drewN | apply below_drew1)) hb)
      clear HB
      have HB := n0_
      clear n0_
      (try clear hb)
      (try clear hb2)
      (try clear hk)
      (try clear hi)
      refine hK.out _ _ ⟨((HB.out.cell (World.block_lt_of_cell? w _ hw116_0)).trans hw116_0), ((HB.out.cell (World.block_lt_of_cell? w _ hw117_0)).trans hw117_0), ((HB.out.cell (World.block_lt_of_cell? w _ hw118_0)).trans hw118_0), ((HB.out.cell (World.block_lt_of_cell? w _ hw119_0)).trans hw119_0), ((HB.out.cell (World.block_lt_of_cell? w _ hw119_1)).trans hw119_1), ((HB.out.cell (World.block_lt_of_cell? w _ hw119_2)).trans hw119_2), ((HB.out.cell (World.block_lt_of_cell? w _ hw120_0)).trans hw120_0), ((HB.out.cell (World.block_lt_of_cell? w _ hw121_0)).trans hw121_0), ((HB.out.cell (World.block_lt_of_cell? w _ hw121_1)).trans hw121_1), ((HB.out.cell (World.block_lt_of_cell? w _ hw121_2)).trans hw121_2)⟩ (fun hHeld => ?_)
      clear hK K
      refine norm_ (a' := ?_) ?_ ?_
      rotate_left
      ·show Act.put _ (some 23) _ = _
       simp only [Act.put, s0_, s1_, s2_, i64_w, i32_w]
       rfl
      refine val_ (v := ?_) (a' := ?_) 7 24 bz4_8 rfl rfl HT_.out (by kernel_rfl) (by rfl) (fun _ _ _ h => h) ?_ ?_ ?_
      rotate_left
      ·intro w'
       go_simp
       with_reducible rfl
      rotate_left
      ·simp only [Act.put, s0_, s1_, s2_, i64_w, i32_w]
       rfl
      refine val_ (v := ?_) (a' := ?_) 8 25 bz4_9 rfl rfl HT_.out (by kernel_rfl) (by rfl) (fun _ _ _ h => h) ?_ ?_ ?_
      rotate_left
      ·intro w'
       go_simp
       with_reducible rfl
      rotate_left
      ·simp only [Act.put, s0_, s1_, s2_, i64_w, i32_w]
       rfl
      refine val_ (v := ?_) (a' := ?_) 9 26 bz4_10 rfl rfl HT_.out (by kernel_rfl) (by rfl) (fun _ _ _ h => h) ?_ ?_ ?_
      rotate_left
      ·intro w'
       go_simp
       with_reducible rfl
      rotate_left
      ·simp only [Act.put, s0_, s1_, s2_, i64_w, i32_w]
       rfl
      refine val_ (v := ?_) (a' := ?_) 10 27 bz4_11 rfl rfl HT_.out (by kernel_rfl) (by rfl) (fun _ _ _ h => h) ?_ ?_ ?_
      rotate_left
      ·intro w'
       go_simp
       with_reducible rfl
      rotate_left
      ·simp only [Act.put, s0_, s1_, s2_, i64_w, i32_w]
       rfl
      refine val_ (v := ?_) (a' := ?_) 11 28 bz4_12 rfl rfl HT_.out (by kernel_rfl) (by rfl) (fun _ _ _ h => h) ?_ ?_ ?_
      rotate_left
      ·intro w'
       go_simp
       with_reducible rfl
      rotate_left
      ·simp only [Act.put, s0_, s1_, s2_, i64_w, i32_w]
       rfl
      refine val_ (v := ?_) (a' := ?_) 13 30 bz4_13 rfl rfl HT_.out (by kernel_rfl) (by rfl) (fun _ _ _ h => h) ?_ ?_ ?_
      rotate_left
      ·intro w'
       go_simp
       with_reducible rfl
      rotate_left
      ·simp only [Act.put, s0_, s1_, s2_, i64_w, i32_w]
       rfl
      refine val_ (v := ?_) (a' := ?_) 14 31 bz4_14 rfl rfl HT_.out (by kernel_rfl) (by rfl) (fun _ _ _ h => h) ?_ ?_ ?_
      rotate_left
      ·intro w'
       go_simp
       with_reducible rfl
      rotate_left
      ·simp only [Act.put, s0_, s1_, s2_, i64_w, i32_w]
       rfl
      refine take_ (i := 12) (N := some 29) (v := ?_) (a' := ?_) bz4_15 rfl rfl (take_ofW HT_.out HW_.out (by kernel_rfl)) (fun _ _ _ h => h) (Or.inl ⟨by rfl, ?_⟩) hHeld ?_ ?_
      rotate_left
      ·rintro w' ⟨s0, s1, s2, s3, s4, s5, s6, s7, s8, s9⟩
       go_simp
       with_reducible rfl
      rotate_left
      ·simp only [Act.put, s0_, s1_, s2_, i64_w, i32_w]
       rfl
      refine take_ (i := 15) (N := some 32) (v := ?_) (a' := ?_) bz4_16 rfl rfl (take_ofW HT_.out HW_.out (by kernel_rfl)) (fun _ _ _ h => h) (Or.inl ⟨by rfl, ?_⟩) hHeld ?_ ?_
      rotate_left
      ·rintro w' ⟨s0, s1, s2, s3, s4, s5, s6, s7, s8, s9⟩
       go_simp
       with_reducible rfl
      rotate_left
      ·simp only [Act.put, s0_, s1_, s2_, i64_w, i32_w]
       rfl
      refine val_ (v := ?_) (a' := ?_) 16 33 bz4_17 rfl rfl HT_.out (by kernel_rfl) (by rfl) (fun _ _ _ h => h) ?_ ?_ ?_
      rotate_left
      ·intro w'
       go_simp
       with_reducible rfl
      rotate_left
      ·simp only [Act.put, s0_, s1_, s2_, i64_w, i32_w]
       rfl
      refine val_ (v := ?_) (a' := ?_) 17 34 bz4_18 rfl rfl HT_.out (by kernel_rfl) (by rfl) (fun _ _ _ h => h) ?_ ?_ ?_
      rotate_left
      ·intro w'
       go_simp
       with_reducible rfl
      rotate_left
      ·simp only [Act.put, s0_, s1_, s2_, i64_w, i32_w]
       rfl
      refine val_ (v := ?_) (a' := ?_) 18 35 bz4_19 rfl rfl HT_.out (by kernel_rfl) (by rfl) (fun _ _ _ h => h) ?_ ?_ ?_
      rotate_left
      ·intro w'
       go_simp
       with_reducible rfl
      rotate_left
      ·simp only [Act.put, s0_, s1_, s2_, i64_w, i32_w]
       rfl
      refine val_ (v := ?_) (a' := ?_) 19 36 bz4_25 rfl rfl HT_.out (by kernel_rfl) (by rfl) (fun _ _ _ h => h) ?_ ?_ ?_
      rotate_left
      ·intro w'
       go_simp
       with_reducible rfl
      rotate_left
      ·simp only [Act.put, s0_, s1_, s2_, i64_w, i32_w]
       rfl
      refine val_ (v := ?_) (a' := ?_) 20 37 bz4_26 rfl rfl HT_.out (by kernel_rfl) (by rfl) (fun _ _ _ h => h) ?_ ?_ ?_
      rotate_left
      ·intro w'
       go_simp
       with_reducible rfl
      rotate_left
      ·simp only [Act.put, s0_, s1_, s2_, i64_w, i32_w]
       rfl
      refine val_ (v := ?_) (a' := ?_) 21 38 bz4_27 rfl rfl HT_.out (by kernel_rfl) (by rfl) (fun _ _ _ h => h) ?_ ?_ ?_
      rotate_left
      ·intro w'
       go_simp
       with_reducible rfl
      rotate_left
      ·simp only [Act.put, s0_, s1_, s2_, i64_w, i32_w]
       rfl
      refine val_ (v := ?_) (a' := ?_) 26 43 bz4_28 rfl rfl HT_.out (by kernel_rfl) (by rfl) (fun _ _ _ h => h) ?_ ?_ ?_
      rotate_left
      ·intro w'
       go_simp
       with_reducible rfl
      rotate_left
      ·simp only [Act.put, s0_, s1_, s2_, i64_w, i32_w]
       rfl
      refine val_ (v := ?_) (a' := ?_) 27 44 bz4_29 rfl rfl HT_.out (by kernel_rfl) (by rfl) (fun _ _ _ h => h) ?_ ?_ ?_
      rotate_left
      ·intro w'
       go_simp
       with_reducible rfl
      rotate_left
      ·simp only [Act.put, s0_, s1_, s2_, i64_w, i32_w]
       rfl
      refine val_ (v := ?_) (a' := ?_) 28 45 bz4_30 rfl rfl HT_.out (by kernel_rfl) (by rfl) (fun _ _ _ h => h) ?_ ?_ ?_
      rotate_left
      ·intro w'
       go_simp
       with_reducible rfl
      rotate_left
      ·simp only [Act.put, s0_, s1_, s2_, i64_w, i32_w]
       rfl
      refine take_ (i := 22) (N := some 39) (v := ?_) (a' := ?_) bz4_31 rfl rfl (take_ofW HT_.out HW_.out (by kernel_rfl)) (fun _ _ _ h => h) (Or.inl ⟨by rfl, ?_⟩) hHeld ?_ ?_
      rotate_left
      ·rintro w' ⟨s0, s1, s2, s3, s4, s5, s6, s7, s8, s9⟩
       go_simp
       with_reducible rfl
      rotate_left
      ·simp only [Act.put, s0_, s1_, s2_, i64_w, i32_w]
       rfl
      refine val_ (v := ?_) (a' := ?_) 23 40 bz4_32 rfl rfl HT_.out (by kernel_rfl) (by rfl) (fun _ _ _ h => h) ?_ ?_ ?_
      rotate_left
      ·intro w'
       go_simp
       with_reducible rfl
      rotate_left
      ·simp only [Act.put, s0_, s1_, s2_, i64_w, i32_w]
       rfl
      refine val_ (v := ?_) (a' := ?_) 24 41 bz4_33 rfl rfl HT_.out (by kernel_rfl) (by rfl) (fun _ _ _ h => h) ?_ ?_ ?_
      rotate_left
      ·intro w'
       go_simp
       with_reducible rfl
      rotate_left
      ·simp only [Act.put, s0_, s1_, s2_, i64_w, i32_w]
       rfl
      refine take_ (i := 25) (N := some 42) (v := ?_) (a' := ?_) bz4_34 rfl rfl (take_ofW HT_.out HW_.out (by kernel_rfl)) (fun _ _ _ h => h) (Or.inl ⟨by rfl, ?_⟩) hHeld ?_ ?_
      rotate_left
      ·rintro w' ⟨s0, s1, s2, s3, s4, s5, s6, s7, s8, s9⟩
       go_simp
       with_reducible rfl
      rotate_left
      ·simp only [Act.put, s0_, s1_, s2_, i64_w, i32_w]
       rfl
      refine take_ (i := 29) (N := some 46) (v := ?_) (a' := ?_) bz4_35 rfl rfl (take_ofW HT_.out HW_.out (by kernel_rfl)) (fun _ _ _ h => h) (Or.inl ⟨by rfl, ?_⟩) hHeld ?_ ?_
      rotate_left
      ·rintro w' ⟨s0, s1, s2, s3, s4, s5, s6, s7, s8, s9⟩
       go_simp
       with_reducible rfl
      rotate_left
      ·simp only [Act.put, s0_, s1_, s2_, i64_w, i32_w]
       rfl
      refine val_ (v := ?_) (a' := ?_) 30 47 bz4_36 rfl rfl HT_.out (by kernel_rfl) (by rfl) (fun _ _ _ h => h) ?_ ?_ ?_
      rotate_left
      ·intro w'
       go_simp
       with_reducible rfl
      rotate_left
      ·simp only [Act.put, s0_, s1_, s2_, i64_w, i32_w]
       rfl
      refine val_ (v := ?_) (a' := ?_) 31 48 bz4_37 rfl rfl HT_.out (by kernel_rfl) (by rfl) (fun _ _ _ h => h) ?_ ?_ ?_
      rotate_left
      ·intro w'
       go_simp
       with_reducible rfl
      rotate_left
      ·simp only [Act.put, s0_, s1_, s2_, i64_w, i32_w]
       rfl
      refine take_ (i := 32) (N := some 49) (v := ?_) (a' := ?_) bz4_38 rfl rfl (take_ofW HT_.out HW_.out (by kernel_rfl)) (fun _ _ _ h => h) (Or.inl ⟨by rfl, ?_⟩) hHeld ?_ ?_
      rotate_left
      ·rintro w' ⟨s0, s1, s2, s3, s4, s5, s6, s7, s8, s9⟩
       go_simp
       with_reducible rfl
      rotate_left
      ·simp only [Act.put, s0_, s1_, s2_, i64_w, i32_w]
       rfl
      refine val_ (v := ?_) (a' := ?_) 33 50 bz4_20 rfl rfl HT_.out (by kernel_rfl) (by rfl) (fun _ _ _ h => h) ?_ ?_ ?_
      rotate_left
      ·intro w'
       go_simp
       with_reducible rfl
      rotate_left
      ·simp only [Act.put, s0_, s1_, s2_, i64_w, i32_w]
       rfl
      refine val_ (v := ?_) (a' := ?_) 34 51 bz4_21 rfl rfl HT_.out (by kernel_rfl) (by rfl) (fun _ _ _ h => h) ?_ ?_ ?_
      rotate_left
      ·intro w'
       go_simp
       with_reducible rfl
      rotate_left
      ·simp only [Act.put, s0_, s1_, s2_, i64_w, i32_w]
       rfl
      refine val_ (v := ?_) (a' := ?_) 35 52 bz4_22 rfl rfl HT_.out (by kernel_rfl) (by rfl) (fun _ _ _ h => h) ?_ ?_ ?_
      rotate_left
      ·intro w'
       go_simp
       with_reducible rfl
      rotate_left
      ·simp only [Act.put, s0_, s1_, s2_, i64_w, i32_w]
       rfl
      refine val_ (v := ?_) (a' := ?_) 36 53 bz4_39 rfl rfl HT_.out (by kernel_rfl) (by rfl) (fun _ _ _ h => h) ?_ ?_ ?_
      rotate_left
      ·intro w'
       go_simp
       with_reducible rfl
      rotate_left
      ·simp only [Act.put, s0_, s1_, s2_, i64_w, i32_w]
       rfl
      refine val_ (v := ?_) (a' := ?_) 37 54 bz4_40 rfl rfl HT_.out (by kernel_rfl) (by rfl) (fun _ _ _ h => h) ?_ ?_ ?_
      rotate_left
      ·intro w'
       go_simp
       with_reducible rfl
      rotate_left
      ·simp only [Act.put, s0_, s1_, s2_, i64_w, i32_w]
       rfl
      refine val_ (v := ?_) (a' := ?_) 38 55 bz4_41 rfl rfl HT_.out (by kernel_rfl) (by rfl) (fun _ _ _ h => h) ?_ ?_ ?_
      rotate_left
      ·intro w'
       go_simp
       with_reducible rfl
      rotate_left
      ·simp only [Act.put, s0_, s1_, s2_, i64_w, i32_w]
       rfl
      refine unds_ [(39, 56), (40, 57), (41, 58), (42, 59), (43, 60), (44, 61), (45, 62), (46, 63), (47, 64), (48, 65), (49, 66)] (a' := ?_) 2 bz4_52 HT_.out (by kernel_rfl) (by kernel_rfl) (fun _ _ _ _ _ h => h) rfl ?_ ?_
      rotate_left
      ·simp only [putU, Act.put, s0_, s1_, s2_, i64_w, i32_w]
       rfl
      refine val_ (v := ?_) (a' := ?_) 50 67 bz4_23 rfl rfl HT_.out (by kernel_rfl) (by rfl) (fun _ _ _ h => h) ?_ ?_ ?_
      rotate_left
      ·intro w'
       go_simp
       with_reducible rfl
      rotate_left
      ·simp only [Act.put, s0_, s1_, s2_, i64_w, i32_w]
       rfl
      refine val_ (v := ?_) (a' := ?_) 51 68 bz4_24 rfl rfl HT_.out (by kernel_rfl) (by rfl) (fun _ _ _ h => h) ?_ ?_ ?_
      rotate_left
      ·intro w'
       go_simp
       with_reducible rfl
      rotate_left
      ·simp only [Act.put, s0_, s1_, s2_, i64_w, i32_w]
       rfl
      refine done_ (done_of HT_.out (by kernel_rfl)) ?_
      try go_wp2
      go_roundg k1
      case measure => have := HK1.out; omega
      case rel => exact ⟨(wrap64 (x12_1 + 1)), (by first | rfl | (simp; done) | (simp [*]; done)), H', ⟨by have := HK1.out; omega⟩, ⟨by repeat (first | exact HB.out | apply below_alloc | apply pw_below_drewN | apply below_drew1)⟩⟩
     rw [if_pos c20] at H
     have c20b0 : decide (0 < x12_1) = true := decide_eq_true c20
     clear c20
     obtain ⟨ji21, hji21⟩ : ∃ j_ : Int, (wrap64 (x12_1 - 1)) = j_ := ⟨_, rfl⟩
     replace H : (if 0 ≤ (ji21) then (if (ji21) < (l1.length : Int) then (if 0 < ((rd_L1 l1 (ji21)).length : Int) then (if (rd (rd_L1 l1 x12_1) 0) ≤ (rd (rd_L1 l1 (ji21)) 0) then (some false) else (impl_pairsOk.l0 k1 l0 l1 l1 (l1.length : Int) (wrap64 (x12_1 + 1)))) else (none)) else (none)) else (none)) = some r := by first | (rw [hji21] at H; exact H) | (simp only [hji21] at H ⊢; exact H)
     (try rw [hji21] at A8)
     have hji21w : (IntKind.i64.wrap (x12_1 - 1)) = ji21 := (i64_w _).trans hji21
     by_cases c22 : 0 ≤ (ji21)
     rotate_left
     ·rw [if_neg c22] at H
      exact absurd H (by simp)
     rw [if_pos c22] at H
     have c22b0 : decide (0 ≤ (ji21)) = true := decide_eq_true c22
     clear c22
     by_cases c23 : (ji21) < (l1.length : Int)
     rotate_left
     ·rw [if_neg c23] at H
      exact absurd H (by simp)
     rw [if_pos c23] at H
     have c23b0 : decide ((ji21) < (l1.length : Int)) = true := decide_eq_true c23
     clear c23
     by_cases c24 : 0 < ((rd_L1 l1 (ji21)).length : Int)
     rotate_left
     ·rw [if_neg c24] at H
      exact absurd H (by simp)
     rw [if_pos c24] at H
     have c24b0 : decide (0 < ((rd_L1 l1 (ji21)).length : Int)) = true := decide_eq_true c24
     have c24b1 : decide (0 < (rd_L1 l1 (ji21)).length) = true := decide_eq_true (by omega)
     clear c24
     by_cases c25 : (rd (rd_L1 l1 x12_1) 0) ≤ (rd (rd_L1 l1 (ji21)) 0)
     rotate_left
     ·rw [if_neg c25] at H
      have c25b0 : decide ((rd (rd_L1 l1 x12_1) 0) ≤ (rd (rd_L1 l1 (ji21)) 0)) = false := decide_eq_false c25
      clear c25
      have H' := Aside0.mk H
      clear H
      have p114 : 0 ≤ (x12_1 : Int) := of_decide_eq_true (by assumption)
      have q114 : x12_1 < (l1.length : Int) := of_decide_eq_true (by assumption)
      obtain ⟨ad114, A114_0, c114_0, e114, hx114_0, hl114_0, hi114_0⟩ := at_L1 HR1.out x12_1 p114 q114
      cases e114
      replace hx114_0 := (HB.out.cell (World.block_lt_of_cell? w _ hx114_0)).trans hx114_0
      have HR114_0 := Aside0.mk hi114_0
      have HC114_0 := Aside0.mk hl114_0
      clear hi114_0 hl114_0
      replace p114 := eq_true p114
      replace q114 := eq_true q114
      try go_wp2
      have n0_ := Aside0.mk (below_drew1 HB.out)
      clear HB
      have HB := n0_
      clear n0_
      have p116 : 0 ≤ (0 : Int) := (by omega)
      have q116 : 0 < ((rd_L1 l1 x12_1).length : Int) := of_decide_eq_true (by assumption)
      obtain ⟨ad116, e116, hx116_0⟩ := Kd.at_int HR114_0.out 0 p116 q116
      have hw116_0 := hx116_0
      (try rw [show ((0 : Int)).toNat = 0 from rfl] at hw116_0)
      (try rw [show 0 * 1 = 0 from rfl] at hw116_0)
      (try rw [Addr.add_zero'] at hw116_0)
      cases e116
      have qi116 : (0 < (rd_L1 l1 x12_1).length) = True := eq_true (by omega)
      (try rw [show ((0 : Int)).toNat = 0 from rfl] at hx116_0)
      (try rw [Addr.add_zero'] at hx116_0)
      replace hx116_0 := (HB.out.cell (World.block_lt_of_cell? w _ hx116_0)).trans hx116_0
      replace p116 := eq_true p116
      replace q116 := eq_true q116
      have p117 : 0 ≤ (1 : Int) := (by omega)
      have q117 : 1 < ((rd_L1 l1 x12_1).length : Int) := of_decide_eq_true (by assumption)
      obtain ⟨ad117, e117, hx117_0⟩ := Kd.at_int HR114_0.out 1 p117 q117
      have hw117_0 := hx117_0
      (try rw [show ((1 : Int)).toNat = 1 from rfl] at hw117_0)
      (try rw [show 1 * 1 = 1 from rfl] at hw117_0)
      (try simp only [Nat.reduceMul, Nat.reduceEqDiff, Go.Addr.add, ↓reduceIte] at hw117_0)
      obtain rfl : ad116 = ad117 := (by injection e117)
      (try simp only [show (1 : Int).toNat = 1 from rfl, Nat.reduceMul, Nat.reduceEqDiff, Go.Addr.add, ↓reduceIte] at hx117_0)
      have qi117 : (1 < (rd_L1 l1 x12_1).length) = True := eq_true (by omega)
      (try rw [show ((1 : Int)).toNat = 1 from rfl] at hx117_0)
      replace hx117_0 := (HB.out.cell (World.block_lt_of_cell? w _ hx117_0)).trans hx117_0
      replace p117 := eq_true p117
      replace q117 := eq_true q117
      have p118 : 0 ≤ (0 : Int) := (by omega)
      have q118 : 0 < ((rd_L1 l1 x12_1).length : Int) := of_decide_eq_true (by assumption)
      obtain ⟨ad118, e118, hx118_0⟩ := Kd.at_int HR114_0.out 0 p118 q118
      have hw118_0 := hx118_0
      (try rw [show ((0 : Int)).toNat = 0 from rfl] at hw118_0)
      (try rw [show 0 * 1 = 0 from rfl] at hw118_0)
      (try rw [Addr.add_zero'] at hw118_0)
      obtain rfl : ad116 = ad118 := (by injection e118)
      have qi118 : (0 < (rd_L1 l1 x12_1).length) = True := eq_true (by omega)
      (try rw [show ((0 : Int)).toNat = 0 from rfl] at hx118_0)
      (try rw [Addr.add_zero'] at hx118_0)
      replace hx118_0 := (HB.out.cell (World.block_lt_of_cell? w _ hx118_0)).trans hx118_0
      replace p118 := eq_true p118
      replace q118 := eq_true q118
      have p119 : 0 ≤ ((rd (rd_L1 l1 x12_1) 0) : Int) := of_decide_eq_true (by assumption)
      have q119 : (rd (rd_L1 l1 x12_1) 0) < (l0.length : Int) := of_decide_eq_true (by assumption)
      obtain ⟨ad119, e119, hx119_0, hx119_1, hx119_2⟩ := at_T93 HR0.out (rd (rd_L1 l1 x12_1) 0) p119 q119
      have hw119_2 := hx119_2
      have hw119_1 := hx119_1
      have hw119_0 := hx119_0
      cases e119
      replace hx119_0 := (HB.out.cell (World.block_lt_of_cell? w _ hx119_0)).trans hx119_0
      replace hx119_1 := (HB.out.cell (World.block_lt_of_cell? w _ hx119_1)).trans hx119_1
      replace hx119_2 := (HB.out.cell (World.block_lt_of_cell? w _ hx119_2)).trans hx119_2
      replace p119 := eq_true p119
      replace q119 := eq_true q119
      have p120 : 0 ≤ (1 : Int) := (by omega)
      have q120 : 1 < ((rd_L1 l1 x12_1).length : Int) := of_decide_eq_true (by assumption)
      obtain ⟨ad120, e120, hx120_0⟩ := Kd.at_int HR114_0.out 1 p120 q120
      have hw120_0 := hx120_0
      (try rw [show ((1 : Int)).toNat = 1 from rfl] at hw120_0)
      (try rw [show 1 * 1 = 1 from rfl] at hw120_0)
      (try simp only [Nat.reduceMul, Nat.reduceEqDiff, Go.Addr.add, ↓reduceIte] at hw120_0)
      obtain rfl : ad116 = ad120 := (by injection e120)
      (try simp only [show (1 : Int).toNat = 1 from rfl, Nat.reduceMul, Nat.reduceEqDiff, Go.Addr.add, ↓reduceIte] at hx120_0)
      have qi120 : (1 < (rd_L1 l1 x12_1).length) = True := eq_true (by omega)
      (try rw [show ((1 : Int)).toNat = 1 from rfl] at hx120_0)
      replace hx120_0 := (HB.out.cell (World.block_lt_of_cell? w _ hx120_0)).trans hx120_0
      replace p120 := eq_true p120
      replace q120 := eq_true q120
      have p121 : 0 ≤ ((rd (rd_L1 l1 x12_1) 1) : Int) := of_decide_eq_true (by assumption)
      have q121 : (rd (rd_L1 l1 x12_1) 1) < (l0.length : Int) := of_decide_eq_true (by assumption)
      obtain ⟨ad121, e121, hx121_0, hx121_1, hx121_2⟩ := at_T93 HR0.out (rd (rd_L1 l1 x12_1) 1) p121 q121
      have hw121_2 := hx121_2
      have hw121_1 := hx121_1
      have hw121_0 := hx121_0
      obtain rfl : ad119 = ad121 := (by injection e121)
      replace hx121_0 := (HB.out.cell (World.block_lt_of_cell? w _ hx121_0)).trans hx121_0
      replace hx121_1 := (HB.out.cell (World.block_lt_of_cell? w _ hx121_1)).trans hx121_1
      replace hx121_2 := (HB.out.cell (World.block_lt_of_cell? w _ hx121_2)).trans hx121_2
      replace p121 := eq_true p121
      replace q121 := eq_true q121
      have p122 : 0 ≤ (0 : Int) := (by omega)
      have q122 : 0 < ((rd_L1 l1 x12_1).length : Int) := of_decide_eq_true (by assumption)
      obtain ⟨ad122, e122, hx122_0⟩ := Kd.at_int HR114_0.out 0 p122 q122
      have hw122_0 := hx122_0
      (try rw [show ((0 : Int)).toNat = 0 from rfl] at hw122_0)
      (try rw [show 0 * 1 = 0 from rfl] at hw122_0)
      (try rw [Addr.add_zero'] at hw122_0)
      obtain rfl : ad116 = ad122 := (by injection e122)
      have qi122 : (0 < (rd_L1 l1 x12_1).length) = True := eq_true (by omega)
      (try rw [show ((0 : Int)).toNat = 0 from rfl] at hx122_0)
      (try rw [Addr.add_zero'] at hx122_0)
      replace hx122_0 := (HB.out.cell (World.block_lt_of_cell? w _ hx122_0)).trans hx122_0
      replace p122 := eq_true p122
      replace q122 := eq_true q122
      have p123 : 0 ≤ ((ji21) : Int) := of_decide_eq_true (by assumption)
      have q123 : (ji21) < (l1.length : Int) := of_decide_eq_true (by assumption)
      obtain ⟨ad123, A123_0, c123_0, e123, hx123_0, hl123_0, hi123_0⟩ := at_L1 HR1.out (ji21) p123 q123
      have hw123_0 := hx123_0
      obtain rfl : ad114 = ad123 := (by injection e123)
      replace hx123_0 := (HB.out.cell (World.block_lt_of_cell? w _ hx123_0)).trans hx123_0
      have HR123_0 := Aside0.mk hi123_0
      have HC123_0 := Aside0.mk hl123_0
      clear hi123_0 hl123_0
      replace p123 := eq_true p123
      replace q123 := eq_true q123
      have p124 : 0 ≤ (0 : Int) := (by omega)
      have q124 : 0 < ((rd_L1 l1 (ji21)).length : Int) := of_decide_eq_true (by assumption)
      obtain ⟨ad124, e124, hx124_0⟩ := Kd.at_int HR123_0.out 0 p124 q124
      have hw124_0 := hx124_0
      (try rw [show ((0 : Int)).toNat = 0 from rfl] at hw124_0)
      (try rw [show 0 * 1 = 0 from rfl] at hw124_0)
      (try rw [Addr.add_zero'] at hw124_0)
      cases e124
      have qi124 : (0 < (rd_L1 l1 (ji21)).length) = True := eq_true (by omega)
      (try rw [show ((0 : Int)).toNat = 0 from rfl] at hx124_0)
      (try rw [Addr.add_zero'] at hx124_0)
      replace hx124_0 := (HB.out.cell (World.block_lt_of_cell? w _ hx124_0)).trans hx124_0
      replace p124 := eq_true p124
      replace q124 := eq_true q124
      refine start_ (n := 52) (S := fun w' => w'.cell? ad116 = some (.int .i64 (rd (rd_L1 l1 x12_1) 0)) ∧ w'.cell? ⟨ad116.block, ad116.off + 1, none⟩ = some (.int .i64 (rd (rd_L1 l1 x12_1) 1)) ∧ w'.cell? ad116 = some (.int .i64 (rd (rd_L1 l1 x12_1) 0)) ∧ w'.cell? (ad119.add (((rd (rd_L1 l1 x12_1) 0)).toNat * 3)) = some (.string ((rd_T93 l0 (rd (rd_L1 l1 x12_1) 0)).f0)) ∧ w'.cell? ⟨(ad119.add (((rd (rd_L1 l1 x12_1) 0)).toNat * 3)).block, (ad119.add (((rd (rd_L1 l1 x12_1) 0)).toNat * 3)).off + 1, none⟩ = some (.int .i64 ((rd_T93 l0 (rd (rd_L1 l1 x12_1) 0)).f1)) ∧ w'.cell? ⟨(ad119.add (((rd (rd_L1 l1 x12_1) 0)).toNat * 3)).block, (ad119.add (((rd (rd_L1 l1 x12_1) 0)).toNat * 3)).off + 2, none⟩ = some (.int .i64 ((rd_T93 l0 (rd (rd_L1 l1 x12_1) 0)).f2)) ∧ w'.cell? ⟨ad116.block, ad116.off + 1, none⟩ = some (.int .i64 (rd (rd_L1 l1 x12_1) 1)) ∧ w'.cell? (ad119.add (((rd (rd_L1 l1 x12_1) 1)).toNat * 3)) = some (.string ((rd_T93 l0 (rd (rd_L1 l1 x12_1) 1)).f0)) ∧ w'.cell? ⟨(ad119.add (((rd (rd_L1 l1 x12_1) 1)).toNat * 3)).block, (ad119.add (((rd (rd_L1 l1 x12_1) 1)).toNat * 3)).off + 1, none⟩ = some (.int .i64 ((rd_T93 l0 (rd (rd_L1 l1 x12_1) 1)).f1)) ∧ w'.cell? ⟨(ad119.add (((rd (rd_L1 l1 x12_1) 1)).toNat * 3)).block, (ad119.add (((rd (rd_L1 l1 x12_1) 1)).toNat * 3)).off + 2, none⟩ = some (.int .i64 ((rd_T93 l0 (rd (rd_L1 l1 x12_1) 1)).f2)) ∧ w'.cell? ad116 = some (.int .i64 (rd (rd_L1 l1 x12_1) 0)) ∧ w'.cell? (ad114.add ((ji21)).toNat) = some (.slice (some ad124) (rd_L1 l1 (ji21)).length c123_0) ∧ w'.cell? ad124 = some (.int .i64 (rd (rd_L1 l1 (ji21)) 0))) (ds := []) bz4_0 (by kernel_rfl) rfl rfl ⟨((HB.out.cell (World.block_lt_of_cell? w _ hw116_0)).trans hw116_0), ((HB.out.cell (World.block_lt_of_cell? w _ hw117_0)).trans hw117_0), ((HB.out.cell (World.block_lt_of_cell? w _ hw118_0)).trans hw118_0), ((HB.out.cell (World.block_lt_of_cell? w _ hw119_0)).trans hw119_0), ((HB.out.cell (World.block_lt_of_cell? w _ hw119_1)).trans hw119_1), ((HB.out.cell (World.block_lt_of_cell? w _ hw119_2)).trans hw119_2), ((HB.out.cell (World.block_lt_of_cell? w _ hw120_0)).trans hw120_0), ((HB.out.cell (World.block_lt_of_cell? w _ hw121_0)).trans hw121_0), ((HB.out.cell (World.block_lt_of_cell? w _ hw121_1)).trans hw121_1), ((HB.out.cell (World.block_lt_of_cell? w _ hw121_2)).trans hw121_2), ((HB.out.cell (World.block_lt_of_cell? w _ hw122_0)).trans hw122_0), ((HB.out.cell (World.block_lt_of_cell? w _ hw123_0)).trans hw123_0), ((HB.out.cell (World.block_lt_of_cell? w _ hw124_0)).trans hw124_0)⟩ (fun hHeld => ?_); refine with_tabW impl_pairsOk.tab6 impl_pairsOk.bits6 (fun HT_ HW_ => ?_)
      generalize wr.drew = w28 at HB HR123_0 hx116_0 hx117_0 hx118_0 hx119_0 hx119_1 hx119_2 hx120_0 hx121_0 hx121_1 hx121_2 hx122_0 hx123_0 hx124_0 hHeld ⊢
      refine val_ (v := ?_) (a' := ?_) 0 17 bz4_1 rfl rfl HT_.out (by kernel_rfl) (by rfl) (fun _ _ _ h => h) ?_ ?_ ?_
      rotate_left
      ·intro w'
       go_simp
       with_reducible rfl
      rotate_left
      ·simp only [Act.put, s0_, s1_, s2_, i64_w, i32_w]
       rfl
      refine val_ (v := ?_) (a' := ?_) 1 18 bz4_2 rfl rfl HT_.out (by kernel_rfl) (by rfl) (fun _ _ _ h => h) ?_ ?_ ?_
      rotate_left
      ·intro w'
       go_simp
       with_reducible rfl
      rotate_left
      ·simp only [Act.put, s0_, s1_, s2_, i64_w, i32_w]
       rfl
      refine val_ (v := ?_) (a' := ?_) 2 19 bz4_3 rfl rfl HT_.out (by kernel_rfl) (by rfl) (fun _ _ _ h => h) ?_ ?_ ?_
      rotate_left
      ·intro w'
       go_simp
       with_reducible rfl
      rotate_left
      ·simp only [Act.put, s0_, s1_, s2_, i64_w, i32_w]
       rfl
      refine val_ (v := ?_) (a' := ?_) 3 20 bz4_4 rfl rfl HT_.out (by kernel_rfl) (by rfl) (fun _ _ _ h => h) ?_ ?_ ?_
      rotate_left
      ·intro w'
       go_simp
       with_reducible rfl
      rotate_left
      ·simp only [Act.put, s0_, s1_, s2_, i64_w, i32_w]
       rfl
      refine val_ (v := ?_) (a' := ?_) 4 21 bz4_5 rfl rfl HT_.out (by kernel_rfl) (by rfl) (fun _ _ _ h => h) ?_ ?_ ?_
      rotate_left
      ·intro w'
       go_simp
       with_reducible rfl
      rotate_left
      ·simp only [Act.put, s0_, s1_, s2_, i64_w, i32_w]
       rfl
      refine val_ (v := ?_) (a' := ?_) 5 22 bz4_6 rfl rfl HT_.out (by kernel_rfl) (by rfl) (fun _ _ _ h => h) ?_ ?_ ?_
      rotate_left
      ·intro w'
       go_simp
       with_reducible rfl
      rotate_left
      ·simp only [Act.put, s0_, s1_, s2_, i64_w, i32_w]
       rfl
      refine one_ (i := 6) (N := some 23) bz4_7 rfl rfl (one_of HT_.out (by kernel_rfl)) (by decide) (fun K hK => ?_)
      refine goes_ Try.func53 (by kernel_rfl) rfl #[.slice (some ad119) l0.length c0, .slice (some ad116) (rd_L1 l1 x12_1).length c114_0] (by rfl) rfl rfl (by (try simp only [List.map_toArray, List.map_cons, List.map_nil]); first | done | rfl) ?_
      with_reducible refine (impl_composedOk.calls _ _ l0 _ _ (rd_L1 l1 x12_1) true _ ?side1 ?side2 ?side3 ?side4 A8.out).mono ?_
      (case side1 => exact (Kd.C_below HR0.out HB.out))
      (case side2 => exact HC0.out)
      (case side3 => exact (Kd.C_below HR114_0.out HB.out))
      (case side4 => exact HC114_0.out)
      rintro e w29 ⟨rfl, hb⟩
      refine ⟨_, rfl, ?_⟩
      have n0_ := Aside0.mk (below_step (by repeat (first | exact HB.out | apply below_alloc | apply pw_below_drewN | apply below_drew1)) hb)
      clear HB
      have HB := n0_
      clear n0_
      (try clear hb)
      (try clear hb2)
      (try clear hk)
      (try clear hi)
      refine hK.out _ _ ⟨((HB.out.cell (World.block_lt_of_cell? w _ hw116_0)).trans hw116_0), ((HB.out.cell (World.block_lt_of_cell? w _ hw117_0)).trans hw117_0), ((HB.out.cell (World.block_lt_of_cell? w _ hw118_0)).trans hw118_0), ((HB.out.cell (World.block_lt_of_cell? w _ hw119_0)).trans hw119_0), ((HB.out.cell (World.block_lt_of_cell? w _ hw119_1)).trans hw119_1), ((HB.out.cell (World.block_lt_of_cell? w _ hw119_2)).trans hw119_2), ((HB.out.cell (World.block_lt_of_cell? w _ hw120_0)).trans hw120_0), ((HB.out.cell (World.block_lt_of_cell? w _ hw121_0)).trans hw121_0), ((HB.out.cell (World.block_lt_of_cell? w _ hw121_1)).trans hw121_1), ((HB.out.cell (World.block_lt_of_cell? w _ hw121_2)).trans hw121_2), ((HB.out.cell (World.block_lt_of_cell? w _ hw122_0)).trans hw122_0), ((HB.out.cell (World.block_lt_of_cell? w _ hw123_0)).trans hw123_0), ((HB.out.cell (World.block_lt_of_cell? w _ hw124_0)).trans hw124_0)⟩ (fun hHeld => ?_)
      clear hK K
      refine norm_ (a' := ?_) ?_ ?_
      rotate_left
      ·show Act.put _ (some 23) _ = _
       simp only [Act.put, s0_, s1_, s2_, i64_w, i32_w]
       rfl
      refine val_ (v := ?_) (a' := ?_) 7 24 bz4_8 rfl rfl HT_.out (by kernel_rfl) (by rfl) (fun _ _ _ h => h) ?_ ?_ ?_
      rotate_left
      ·intro w'
       go_simp
       with_reducible rfl
      rotate_left
      ·simp only [Act.put, s0_, s1_, s2_, i64_w, i32_w]
       rfl
      refine val_ (v := ?_) (a' := ?_) 8 25 bz4_9 rfl rfl HT_.out (by kernel_rfl) (by rfl) (fun _ _ _ h => h) ?_ ?_ ?_
      rotate_left
      ·intro w'
       go_simp
       with_reducible rfl
      rotate_left
      ·simp only [Act.put, s0_, s1_, s2_, i64_w, i32_w]
       rfl
      refine val_ (v := ?_) (a' := ?_) 9 26 bz4_10 rfl rfl HT_.out (by kernel_rfl) (by rfl) (fun _ _ _ h => h) ?_ ?_ ?_
      rotate_left
      ·intro w'
       go_simp
       with_reducible rfl
      rotate_left
      ·simp only [Act.put, s0_, s1_, s2_, i64_w, i32_w]
       rfl
      refine val_ (v := ?_) (a' := ?_) 10 27 bz4_11 rfl rfl HT_.out (by kernel_rfl) (by rfl) (fun _ _ _ h => h) ?_ ?_ ?_
      rotate_left
      ·intro w'
       go_simp
       with_reducible rfl
      rotate_left
      ·simp only [Act.put, s0_, s1_, s2_, i64_w, i32_w]
       rfl
      refine val_ (v := ?_) (a' := ?_) 11 28 bz4_12 rfl rfl HT_.out (by kernel_rfl) (by rfl) (fun _ _ _ h => h) ?_ ?_ ?_
      rotate_left
      ·intro w'
       go_simp
       with_reducible rfl
      rotate_left
      ·simp only [Act.put, s0_, s1_, s2_, i64_w, i32_w]
       rfl
      refine val_ (v := ?_) (a' := ?_) 13 30 bz4_13 rfl rfl HT_.out (by kernel_rfl) (by rfl) (fun _ _ _ h => h) ?_ ?_ ?_
      rotate_left
      ·intro w'
       go_simp
       with_reducible rfl
      rotate_left
      ·simp only [Act.put, s0_, s1_, s2_, i64_w, i32_w]
       rfl
      refine val_ (v := ?_) (a' := ?_) 14 31 bz4_14 rfl rfl HT_.out (by kernel_rfl) (by rfl) (fun _ _ _ h => h) ?_ ?_ ?_
      rotate_left
      ·intro w'
       go_simp
       with_reducible rfl
      rotate_left
      ·simp only [Act.put, s0_, s1_, s2_, i64_w, i32_w]
       rfl
      refine take_ (i := 12) (N := some 29) (v := ?_) (a' := ?_) bz4_15 rfl rfl (take_ofW HT_.out HW_.out (by kernel_rfl)) (fun _ _ _ h => h) (Or.inl ⟨by rfl, ?_⟩) hHeld ?_ ?_
      rotate_left
      ·rintro w' ⟨s0, s1, s2, s3, s4, s5, s6, s7, s8, s9, s10, s11, s12⟩
       go_simp
       with_reducible rfl
      rotate_left
      ·simp only [Act.put, s0_, s1_, s2_, i64_w, i32_w]
       rfl
      refine take_ (i := 15) (N := some 32) (v := ?_) (a' := ?_) bz4_16 rfl rfl (take_ofW HT_.out HW_.out (by kernel_rfl)) (fun _ _ _ h => h) (Or.inl ⟨by rfl, ?_⟩) hHeld ?_ ?_
      rotate_left
      ·rintro w' ⟨s0, s1, s2, s3, s4, s5, s6, s7, s8, s9, s10, s11, s12⟩
       go_simp
       with_reducible rfl
      rotate_left
      ·simp only [Act.put, s0_, s1_, s2_, i64_w, i32_w]
       rfl
      refine val_ (v := ?_) (a' := ?_) 16 33 bz4_17 rfl rfl HT_.out (by kernel_rfl) (by rfl) (fun _ _ _ h => h) ?_ ?_ ?_
      rotate_left
      ·intro w'
       go_simp
       with_reducible rfl
      rotate_left
      ·simp only [Act.put, s0_, s1_, s2_, i64_w, i32_w]
       rfl
      refine val_ (v := ?_) (a' := ?_) 17 34 bz4_18 rfl rfl HT_.out (by kernel_rfl) (by rfl) (fun _ _ _ h => h) ?_ ?_ ?_
      rotate_left
      ·intro w'
       go_simp
       with_reducible rfl
      rotate_left
      ·simp only [Act.put, s0_, s1_, s2_, i64_w, i32_w]
       rfl
      refine val_ (v := ?_) (a' := ?_) 18 35 bz4_19 rfl rfl HT_.out (by kernel_rfl) (by rfl) (fun _ _ _ h => h) ?_ ?_ ?_
      rotate_left
      ·intro w'
       go_simp
       with_reducible rfl
      rotate_left
      ·simp only [Act.put, s0_, s1_, s2_, i64_w, i32_w]
       rfl
      refine val_ (v := ?_) (a' := ?_) 19 36 bz4_25 rfl rfl HT_.out (by kernel_rfl) (by rfl) (fun _ _ _ h => h) ?_ ?_ ?_
      rotate_left
      ·intro w'
       go_simp
       with_reducible rfl
      rotate_left
      ·simp only [Act.put, s0_, s1_, s2_, i64_w, i32_w]
       rfl
      refine val_ (v := ?_) (a' := ?_) 20 37 bz4_26 rfl rfl HT_.out (by kernel_rfl) (by rfl) (fun _ _ _ h => h) ?_ ?_ ?_
      rotate_left
      ·intro w'
       go_simp
       with_reducible rfl
      rotate_left
      ·simp only [Act.put, s0_, s1_, s2_, i64_w, i32_w]
       rfl
      refine val_ (v := ?_) (a' := ?_) 21 38 bz4_27 rfl rfl HT_.out (by kernel_rfl) (by rfl) (fun _ _ _ h => h) ?_ ?_ ?_
      rotate_left
      ·intro w'
       go_simp
       with_reducible rfl
      rotate_left
      ·simp only [Act.put, s0_, s1_, s2_, i64_w, i32_w]
       rfl
      refine val_ (v := ?_) (a' := ?_) 26 43 bz4_28 rfl rfl HT_.out (by kernel_rfl) (by rfl) (fun _ _ _ h => h) ?_ ?_ ?_
      rotate_left
      ·intro w'
       go_simp
       with_reducible rfl
      rotate_left
      ·simp only [Act.put, s0_, s1_, s2_, i64_w, i32_w]
       rfl
      refine val_ (v := ?_) (a' := ?_) 27 44 bz4_29 rfl rfl HT_.out (by kernel_rfl) (by rfl) (fun _ _ _ h => h) ?_ ?_ ?_
      rotate_left
      ·intro w'
       go_simp
       with_reducible rfl
      rotate_left
      ·simp only [Act.put, s0_, s1_, s2_, i64_w, i32_w]
       rfl
      refine val_ (v := ?_) (a' := ?_) 28 45 bz4_30 rfl rfl HT_.out (by kernel_rfl) (by rfl) (fun _ _ _ h => h) ?_ ?_ ?_
      rotate_left
      ·intro w'
       go_simp
       with_reducible rfl
      rotate_left
      ·simp only [Act.put, s0_, s1_, s2_, i64_w, i32_w]
       rfl
      refine take_ (i := 22) (N := some 39) (v := ?_) (a' := ?_) bz4_31 rfl rfl (take_ofW HT_.out HW_.out (by kernel_rfl)) (fun _ _ _ h => h) (Or.inl ⟨by rfl, ?_⟩) hHeld ?_ ?_
      rotate_left
      ·rintro w' ⟨s0, s1, s2, s3, s4, s5, s6, s7, s8, s9, s10, s11, s12⟩
       go_simp
       with_reducible rfl
      rotate_left
      ·simp only [Act.put, s0_, s1_, s2_, i64_w, i32_w]
       rfl
      refine val_ (v := ?_) (a' := ?_) 23 40 bz4_32 rfl rfl HT_.out (by kernel_rfl) (by rfl) (fun _ _ _ h => h) ?_ ?_ ?_
      rotate_left
      ·intro w'
       go_simp
       with_reducible rfl
      rotate_left
      ·simp only [Act.put, s0_, s1_, s2_, i64_w, i32_w]
       rfl
      refine val_ (v := ?_) (a' := ?_) 24 41 bz4_33 rfl rfl HT_.out (by kernel_rfl) (by rfl) (fun _ _ _ h => h) ?_ ?_ ?_
      rotate_left
      ·intro w'
       go_simp
       with_reducible rfl
      rotate_left
      ·simp only [Act.put, s0_, s1_, s2_, i64_w, i32_w]
       rfl
      refine take_ (i := 25) (N := some 42) (v := ?_) (a' := ?_) bz4_34 rfl rfl (take_ofW HT_.out HW_.out (by kernel_rfl)) (fun _ _ _ h => h) (Or.inl ⟨by rfl, ?_⟩) hHeld ?_ ?_
      rotate_left
      ·rintro w' ⟨s0, s1, s2, s3, s4, s5, s6, s7, s8, s9, s10, s11, s12⟩
       go_simp
       with_reducible rfl
      rotate_left
      ·simp only [Act.put, s0_, s1_, s2_, i64_w, i32_w]
       rfl
      refine take_ (i := 29) (N := some 46) (v := ?_) (a' := ?_) bz4_35 rfl rfl (take_ofW HT_.out HW_.out (by kernel_rfl)) (fun _ _ _ h => h) (Or.inl ⟨by rfl, ?_⟩) hHeld ?_ ?_
      rotate_left
      ·rintro w' ⟨s0, s1, s2, s3, s4, s5, s6, s7, s8, s9, s10, s11, s12⟩
       go_simp
       with_reducible rfl
      rotate_left
      ·simp only [Act.put, s0_, s1_, s2_, i64_w, i32_w]
       rfl
      refine val_ (v := ?_) (a' := ?_) 30 47 bz4_36 rfl rfl HT_.out (by kernel_rfl) (by rfl) (fun _ _ _ h => h) ?_ ?_ ?_
      rotate_left
      ·intro w'
       go_simp
       with_reducible rfl
      rotate_left
      ·simp only [Act.put, s0_, s1_, s2_, i64_w, i32_w]
       rfl
      refine val_ (v := ?_) (a' := ?_) 31 48 bz4_37 rfl rfl HT_.out (by kernel_rfl) (by rfl) (fun _ _ _ h => h) ?_ ?_ ?_
      rotate_left
      ·intro w'
       go_simp
       with_reducible rfl
      rotate_left
      ·simp only [Act.put, s0_, s1_, s2_, i64_w, i32_w]
       rfl
      refine take_ (i := 32) (N := some 49) (v := ?_) (a' := ?_) bz4_38 rfl rfl (take_ofW HT_.out HW_.out (by kernel_rfl)) (fun _ _ _ h => h) (Or.inl ⟨by rfl, ?_⟩) hHeld ?_ ?_
      rotate_left
      ·rintro w' ⟨s0, s1, s2, s3, s4, s5, s6, s7, s8, s9, s10, s11, s12⟩
       go_simp
       with_reducible rfl
      rotate_left
      ·simp only [Act.put, s0_, s1_, s2_, i64_w, i32_w]
       rfl
      refine val_ (v := ?_) (a' := ?_) 33 50 bz4_20 rfl rfl HT_.out (by kernel_rfl) (by rfl) (fun _ _ _ h => h) ?_ ?_ ?_
      rotate_left
      ·intro w'
       go_simp
       with_reducible rfl
      rotate_left
      ·simp only [Act.put, s0_, s1_, s2_, i64_w, i32_w]
       rfl
      refine val_ (v := ?_) (a' := ?_) 34 51 bz4_21 rfl rfl HT_.out (by kernel_rfl) (by rfl) (fun _ _ _ h => h) ?_ ?_ ?_
      rotate_left
      ·intro w'
       go_simp
       with_reducible rfl
      rotate_left
      ·simp only [Act.put, s0_, s1_, s2_, i64_w, i32_w]
       rfl
      refine val_ (v := ?_) (a' := ?_) 35 52 bz4_22 rfl rfl HT_.out (by kernel_rfl) (by rfl) (fun _ _ _ h => h) ?_ ?_ ?_
      rotate_left
      ·intro w'
       go_simp
       with_reducible rfl
      rotate_left
      ·simp only [Act.put, s0_, s1_, s2_, i64_w, i32_w]
       rfl
      refine val_ (v := ?_) (a' := ?_) 36 53 bz4_39 rfl rfl HT_.out (by kernel_rfl) (by rfl) (fun _ _ _ h => h) ?_ ?_ ?_
      rotate_left
      ·intro w'
       go_simp
       with_reducible rfl
      rotate_left
      ·simp only [Act.put, s0_, s1_, s2_, i64_w, i32_w]
       rfl
      refine val_ (v := ?_) (a' := ?_) 37 54 bz4_40 rfl rfl HT_.out (by kernel_rfl) (by rfl) (fun _ _ _ h => h) ?_ ?_ ?_
      rotate_left
      ·intro w'
       go_simp
       with_reducible rfl
      rotate_left
      ·simp only [Act.put, s0_, s1_, s2_, i64_w, i32_w]
       rfl
      refine val_ (v := ?_) (a' := ?_) 38 55 bz4_41 rfl rfl HT_.out (by kernel_rfl) (by rfl) (fun _ _ _ h => h) ?_ ?_ ?_
      rotate_left
      ·intro w'
       go_simp
       with_reducible rfl
      rotate_left
      ·simp only [Act.put, s0_, s1_, s2_, i64_w, i32_w]
       rfl
      refine val_ (v := ?_) (a' := ?_) 39 56 bz4_42 rfl rfl HT_.out (by kernel_rfl) (by rfl) (fun _ _ _ h => h) ?_ ?_ ?_
      rotate_left
      ·intro w'
       go_simp
       with_reducible rfl
      rotate_left
      ·simp only [Act.put, s0_, s1_, s2_, i64_w, i32_w]
       rfl
      refine val_ (v := ?_) (a' := ?_) 40 57 bz4_43 rfl rfl HT_.out (by kernel_rfl) (by rfl) (fun _ _ _ h => h) ?_ ?_ ?_
      rotate_left
      ·intro w'
       go_simp
       with_reducible rfl
      rotate_left
      ·simp only [Act.put, s0_, s1_, s2_, i64_w, i32_w]
       rfl
      refine val_ (v := ?_) (a' := ?_) 42 59 bz4_44 rfl rfl HT_.out (by kernel_rfl) (by rfl) (fun _ _ _ h => h) ?_ ?_ ?_
      rotate_left
      ·intro w'
       go_simp
       with_reducible rfl
      rotate_left
      ·simp only [Act.put, s0_, s1_, s2_, i64_w, i32_w]
       rfl
      refine val_ (v := ?_) (a' := ?_) 43 60 bz4_45 rfl rfl HT_.out (by kernel_rfl) (by rfl) (fun _ _ _ h => h) ?_ ?_ ?_
      rotate_left
      ·intro w'
       go_simp
       with_reducible rfl
      rotate_left
      ·simp only [Act.put, s0_, s1_, s2_, i64_w, i32_w]
       rfl
      refine val_ (v := ?_) (a' := ?_) 44 61 bz4_46 rfl rfl HT_.out (by kernel_rfl) (by rfl) (fun _ _ _ h => h) ?_ ?_ ?_
      rotate_left
      ·intro w'
       go_simp
       with_reducible rfl
      rotate_left
      ·simp only [Act.put, s0_, s1_, s2_, i64_w, i32_w]
       rfl
      refine val_ (v := ?_) (a' := ?_) 45 62 bz4_47 rfl rfl HT_.out (by kernel_rfl) (by rfl) (fun _ _ _ h => h) ?_ ?_ ?_
      rotate_left
      ·intro w'
       go_simp
       with_reducible rfl
      rotate_left
      ·simp only [Act.put, s0_, s1_, s2_, i64_w, i32_w]
       rfl
      refine take_ (i := 41) (N := some 58) (v := ?_) (a' := ?_) bz4_48 rfl rfl (take_ofW HT_.out HW_.out (by kernel_rfl)) (fun _ _ _ h => h) (Or.inl ⟨by rfl, ?_⟩) hHeld ?_ ?_
      rotate_left
      ·rintro w' ⟨s0, s1, s2, s3, s4, s5, s6, s7, s8, s9, s10, s11, s12⟩
       go_simp
       with_reducible rfl
      rotate_left
      ·simp only [Act.put, s0_, s1_, s2_, i64_w, i32_w]
       rfl
      refine take_ (i := 46) (N := some 63) (v := ?_) (a' := ?_) bz4_49 rfl rfl (take_ofW HT_.out HW_.out (by kernel_rfl)) (fun _ _ _ h => h) (Or.inl ⟨by rfl, ?_⟩) hHeld ?_ ?_
      rotate_left
      ·rintro w' ⟨s0, s1, s2, s3, s4, s5, s6, s7, s8, s9, s10, s11, s12⟩
       go_simp
       with_reducible rfl
      rotate_left
      ·simp only [Act.put, s0_, s1_, s2_, i64_w, i32_w]
       rfl
      refine val_ (v := ?_) (a' := ?_) 47 64 bz4_50 rfl rfl HT_.out (by kernel_rfl) (by rfl) (fun _ _ _ h => h) ?_ ?_ ?_
      rotate_left
      ·intro w'
       go_simp
       with_reducible rfl
      rotate_left
      ·simp only [Act.put, s0_, s1_, s2_, i64_w, i32_w]
       rfl
      refine take_ (i := 48) (N := some 65) (v := ?_) (a' := ?_) bz4_51 rfl rfl (take_ofW HT_.out HW_.out (by kernel_rfl)) (fun _ _ _ h => h) (Or.inl ⟨by rfl, ?_⟩) hHeld ?_ ?_
      rotate_left
      ·rintro w' ⟨s0, s1, s2, s3, s4, s5, s6, s7, s8, s9, s10, s11, s12⟩
       go_simp
       with_reducible rfl
      rotate_left
      ·simp only [Act.put, s0_, s1_, s2_, i64_w, i32_w]
       rfl
      refine val_ (v := ?_) (a' := ?_) 49 66 bz4_52 rfl rfl HT_.out (by kernel_rfl) (by rfl) (fun _ _ _ h => h) ?_ ?_ ?_
      rotate_left
      ·intro w'
       go_simp
       with_reducible rfl
      rotate_left
      ·simp only [Act.put, s0_, s1_, s2_, i64_w, i32_w]
       rfl
      refine val_ (v := ?_) (a' := ?_) 50 67 bz4_23 rfl rfl HT_.out (by kernel_rfl) (by rfl) (fun _ _ _ h => h) ?_ ?_ ?_
      rotate_left
      ·intro w'
       go_simp
       with_reducible rfl
      rotate_left
      ·simp only [Act.put, s0_, s1_, s2_, i64_w, i32_w]
       rfl
      refine val_ (v := ?_) (a' := ?_) 51 68 bz4_24 rfl rfl HT_.out (by kernel_rfl) (by rfl) (fun _ _ _ h => h) ?_ ?_ ?_
      rotate_left
      ·intro w'
       go_simp
       with_reducible rfl
      rotate_left
      ·simp only [Act.put, s0_, s1_, s2_, i64_w, i32_w]
       rfl
      refine done_ (done_of HT_.out (by kernel_rfl)) ?_
      try go_wp2
      go_roundg k1
      case measure => have := HK1.out; omega
      case rel => exact ⟨(wrap64 (x12_1 + 1)), (by first | rfl | (simp; done) | (simp [*]; done)), H', ⟨by have := HK1.out; omega⟩, ⟨by repeat (first | exact HB.out | apply below_alloc | apply pw_below_drewN | apply below_drew1)⟩⟩
     rw [if_pos c25] at H
     have c25b0 : decide ((rd (rd_L1 l1 x12_1) 0) ≤ (rd (rd_L1 l1 (ji21)) 0)) = true := decide_eq_true c25
     clear c25
     obtain rfl := Option.some.inj H
     have p114 : 0 ≤ (x12_1 : Int) := of_decide_eq_true (by assumption)
     have q114 : x12_1 < (l1.length : Int) := of_decide_eq_true (by assumption)
     obtain ⟨ad114, A114_0, c114_0, e114, hx114_0, hl114_0, hi114_0⟩ := at_L1 HR1.out x12_1 p114 q114
     cases e114
     replace hx114_0 := (HB.out.cell (World.block_lt_of_cell? w _ hx114_0)).trans hx114_0
     have HR114_0 := Aside0.mk hi114_0
     have HC114_0 := Aside0.mk hl114_0
     clear hi114_0 hl114_0
     replace p114 := eq_true p114
     replace q114 := eq_true q114
     try go_wp2
     have n0_ := Aside0.mk (below_drew1 HB.out)
     clear HB
     have HB := n0_
     clear n0_
     have p116 : 0 ≤ (0 : Int) := (by omega)
     have q116 : 0 < ((rd_L1 l1 x12_1).length : Int) := of_decide_eq_true (by assumption)
     obtain ⟨ad116, e116, hx116_0⟩ := Kd.at_int HR114_0.out 0 p116 q116
     have hw116_0 := hx116_0
     (try rw [show ((0 : Int)).toNat = 0 from rfl] at hw116_0)
     (try rw [show 0 * 1 = 0 from rfl] at hw116_0)
     (try rw [Addr.add_zero'] at hw116_0)
     cases e116
     have qi116 : (0 < (rd_L1 l1 x12_1).length) = True := eq_true (by omega)
     (try rw [show ((0 : Int)).toNat = 0 from rfl] at hx116_0)
     (try rw [Addr.add_zero'] at hx116_0)
     replace hx116_0 := (HB.out.cell (World.block_lt_of_cell? w _ hx116_0)).trans hx116_0
     replace p116 := eq_true p116
     replace q116 := eq_true q116
     have p117 : 0 ≤ (1 : Int) := (by omega)
     have q117 : 1 < ((rd_L1 l1 x12_1).length : Int) := of_decide_eq_true (by assumption)
     obtain ⟨ad117, e117, hx117_0⟩ := Kd.at_int HR114_0.out 1 p117 q117
     have hw117_0 := hx117_0
     (try rw [show ((1 : Int)).toNat = 1 from rfl] at hw117_0)
     (try rw [show 1 * 1 = 1 from rfl] at hw117_0)
     (try simp only [Nat.reduceMul, Nat.reduceEqDiff, Go.Addr.add, ↓reduceIte] at hw117_0)
     obtain rfl : ad116 = ad117 := (by injection e117)
     (try simp only [show (1 : Int).toNat = 1 from rfl, Nat.reduceMul, Nat.reduceEqDiff, Go.Addr.add, ↓reduceIte] at hx117_0)
     have qi117 : (1 < (rd_L1 l1 x12_1).length) = True := eq_true (by omega)
     (try rw [show ((1 : Int)).toNat = 1 from rfl] at hx117_0)
     replace hx117_0 := (HB.out.cell (World.block_lt_of_cell? w _ hx117_0)).trans hx117_0
     replace p117 := eq_true p117
     replace q117 := eq_true q117
     have p118 : 0 ≤ (0 : Int) := (by omega)
     have q118 : 0 < ((rd_L1 l1 x12_1).length : Int) := of_decide_eq_true (by assumption)
     obtain ⟨ad118, e118, hx118_0⟩ := Kd.at_int HR114_0.out 0 p118 q118
     have hw118_0 := hx118_0
     (try rw [show ((0 : Int)).toNat = 0 from rfl] at hw118_0)
     (try rw [show 0 * 1 = 0 from rfl] at hw118_0)
     (try rw [Addr.add_zero'] at hw118_0)
     obtain rfl : ad116 = ad118 := (by injection e118)
     have qi118 : (0 < (rd_L1 l1 x12_1).length) = True := eq_true (by omega)
     (try rw [show ((0 : Int)).toNat = 0 from rfl] at hx118_0)
     (try rw [Addr.add_zero'] at hx118_0)
     replace hx118_0 := (HB.out.cell (World.block_lt_of_cell? w _ hx118_0)).trans hx118_0
     replace p118 := eq_true p118
     replace q118 := eq_true q118
     have p119 : 0 ≤ ((rd (rd_L1 l1 x12_1) 0) : Int) := of_decide_eq_true (by assumption)
     have q119 : (rd (rd_L1 l1 x12_1) 0) < (l0.length : Int) := of_decide_eq_true (by assumption)
     obtain ⟨ad119, e119, hx119_0, hx119_1, hx119_2⟩ := at_T93 HR0.out (rd (rd_L1 l1 x12_1) 0) p119 q119
     have hw119_2 := hx119_2
     have hw119_1 := hx119_1
     have hw119_0 := hx119_0
     cases e119
     replace hx119_0 := (HB.out.cell (World.block_lt_of_cell? w _ hx119_0)).trans hx119_0
     replace hx119_1 := (HB.out.cell (World.block_lt_of_cell? w _ hx119_1)).trans hx119_1
     replace hx119_2 := (HB.out.cell (World.block_lt_of_cell? w _ hx119_2)).trans hx119_2
     replace p119 := eq_true p119
     replace q119 := eq_true q119
     have p120 : 0 ≤ (1 : Int) := (by omega)
     have q120 : 1 < ((rd_L1 l1 x12_1).length : Int) := of_decide_eq_true (by assumption)
     obtain ⟨ad120, e120, hx120_0⟩ := Kd.at_int HR114_0.out 1 p120 q120
     have hw120_0 := hx120_0
     (try rw [show ((1 : Int)).toNat = 1 from rfl] at hw120_0)
     (try rw [show 1 * 1 = 1 from rfl] at hw120_0)
     (try simp only [Nat.reduceMul, Nat.reduceEqDiff, Go.Addr.add, ↓reduceIte] at hw120_0)
     obtain rfl : ad116 = ad120 := (by injection e120)
     (try simp only [show (1 : Int).toNat = 1 from rfl, Nat.reduceMul, Nat.reduceEqDiff, Go.Addr.add, ↓reduceIte] at hx120_0)
     have qi120 : (1 < (rd_L1 l1 x12_1).length) = True := eq_true (by omega)
     (try rw [show ((1 : Int)).toNat = 1 from rfl] at hx120_0)
     replace hx120_0 := (HB.out.cell (World.block_lt_of_cell? w _ hx120_0)).trans hx120_0
     replace p120 := eq_true p120
     replace q120 := eq_true q120
     have p121 : 0 ≤ ((rd (rd_L1 l1 x12_1) 1) : Int) := of_decide_eq_true (by assumption)
     have q121 : (rd (rd_L1 l1 x12_1) 1) < (l0.length : Int) := of_decide_eq_true (by assumption)
     obtain ⟨ad121, e121, hx121_0, hx121_1, hx121_2⟩ := at_T93 HR0.out (rd (rd_L1 l1 x12_1) 1) p121 q121
     have hw121_2 := hx121_2
     have hw121_1 := hx121_1
     have hw121_0 := hx121_0
     obtain rfl : ad119 = ad121 := (by injection e121)
     replace hx121_0 := (HB.out.cell (World.block_lt_of_cell? w _ hx121_0)).trans hx121_0
     replace hx121_1 := (HB.out.cell (World.block_lt_of_cell? w _ hx121_1)).trans hx121_1
     replace hx121_2 := (HB.out.cell (World.block_lt_of_cell? w _ hx121_2)).trans hx121_2
     replace p121 := eq_true p121
     replace q121 := eq_true q121
     have p122 : 0 ≤ (0 : Int) := (by omega)
     have q122 : 0 < ((rd_L1 l1 x12_1).length : Int) := of_decide_eq_true (by assumption)
     obtain ⟨ad122, e122, hx122_0⟩ := Kd.at_int HR114_0.out 0 p122 q122
     have hw122_0 := hx122_0
     (try rw [show ((0 : Int)).toNat = 0 from rfl] at hw122_0)
     (try rw [show 0 * 1 = 0 from rfl] at hw122_0)
     (try rw [Addr.add_zero'] at hw122_0)
     obtain rfl : ad116 = ad122 := (by injection e122)
     have qi122 : (0 < (rd_L1 l1 x12_1).length) = True := eq_true (by omega)
     (try rw [show ((0 : Int)).toNat = 0 from rfl] at hx122_0)
     (try rw [Addr.add_zero'] at hx122_0)
     replace hx122_0 := (HB.out.cell (World.block_lt_of_cell? w _ hx122_0)).trans hx122_0
     replace p122 := eq_true p122
     replace q122 := eq_true q122
     have p123 : 0 ≤ ((ji21) : Int) := of_decide_eq_true (by assumption)
     have q123 : (ji21) < (l1.length : Int) := of_decide_eq_true (by assumption)
     obtain ⟨ad123, A123_0, c123_0, e123, hx123_0, hl123_0, hi123_0⟩ := at_L1 HR1.out (ji21) p123 q123
     have hw123_0 := hx123_0
     obtain rfl : ad114 = ad123 := (by injection e123)
     replace hx123_0 := (HB.out.cell (World.block_lt_of_cell? w _ hx123_0)).trans hx123_0
     have HR123_0 := Aside0.mk hi123_0
     have HC123_0 := Aside0.mk hl123_0
     clear hi123_0 hl123_0
     replace p123 := eq_true p123
     replace q123 := eq_true q123
     have p124 : 0 ≤ (0 : Int) := (by omega)
     have q124 : 0 < ((rd_L1 l1 (ji21)).length : Int) := of_decide_eq_true (by assumption)
     obtain ⟨ad124, e124, hx124_0⟩ := Kd.at_int HR123_0.out 0 p124 q124
     have hw124_0 := hx124_0
     (try rw [show ((0 : Int)).toNat = 0 from rfl] at hw124_0)
     (try rw [show 0 * 1 = 0 from rfl] at hw124_0)
     (try rw [Addr.add_zero'] at hw124_0)
     cases e124
     have qi124 : (0 < (rd_L1 l1 (ji21)).length) = True := eq_true (by omega)
     (try rw [show ((0 : Int)).toNat = 0 from rfl] at hx124_0)
     (try rw [Addr.add_zero'] at hx124_0)
     replace hx124_0 := (HB.out.cell (World.block_lt_of_cell? w _ hx124_0)).trans hx124_0
     replace p124 := eq_true p124
     replace q124 := eq_true q124
     refine start_ (n := 52) (S := fun w' => w'.cell? ad116 = some (.int .i64 (rd (rd_L1 l1 x12_1) 0)) ∧ w'.cell? ⟨ad116.block, ad116.off + 1, none⟩ = some (.int .i64 (rd (rd_L1 l1 x12_1) 1)) ∧ w'.cell? ad116 = some (.int .i64 (rd (rd_L1 l1 x12_1) 0)) ∧ w'.cell? (ad119.add (((rd (rd_L1 l1 x12_1) 0)).toNat * 3)) = some (.string ((rd_T93 l0 (rd (rd_L1 l1 x12_1) 0)).f0)) ∧ w'.cell? ⟨(ad119.add (((rd (rd_L1 l1 x12_1) 0)).toNat * 3)).block, (ad119.add (((rd (rd_L1 l1 x12_1) 0)).toNat * 3)).off + 1, none⟩ = some (.int .i64 ((rd_T93 l0 (rd (rd_L1 l1 x12_1) 0)).f1)) ∧ w'.cell? ⟨(ad119.add (((rd (rd_L1 l1 x12_1) 0)).toNat * 3)).block, (ad119.add (((rd (rd_L1 l1 x12_1) 0)).toNat * 3)).off + 2, none⟩ = some (.int .i64 ((rd_T93 l0 (rd (rd_L1 l1 x12_1) 0)).f2)) ∧ w'.cell? ⟨ad116.block, ad116.off + 1, none⟩ = some (.int .i64 (rd (rd_L1 l1 x12_1) 1)) ∧ w'.cell? (ad119.add (((rd (rd_L1 l1 x12_1) 1)).toNat * 3)) = some (.string ((rd_T93 l0 (rd (rd_L1 l1 x12_1) 1)).f0)) ∧ w'.cell? ⟨(ad119.add (((rd (rd_L1 l1 x12_1) 1)).toNat * 3)).block, (ad119.add (((rd (rd_L1 l1 x12_1) 1)).toNat * 3)).off + 1, none⟩ = some (.int .i64 ((rd_T93 l0 (rd (rd_L1 l1 x12_1) 1)).f1)) ∧ w'.cell? ⟨(ad119.add (((rd (rd_L1 l1 x12_1) 1)).toNat * 3)).block, (ad119.add (((rd (rd_L1 l1 x12_1) 1)).toNat * 3)).off + 2, none⟩ = some (.int .i64 ((rd_T93 l0 (rd (rd_L1 l1 x12_1) 1)).f2)) ∧ w'.cell? ad116 = some (.int .i64 (rd (rd_L1 l1 x12_1) 0)) ∧ w'.cell? (ad114.add ((ji21)).toNat) = some (.slice (some ad124) (rd_L1 l1 (ji21)).length c123_0) ∧ w'.cell? ad124 = some (.int .i64 (rd (rd_L1 l1 (ji21)) 0))) (ds := []) bz4_0 (by kernel_rfl) rfl rfl ⟨((HB.out.cell (World.block_lt_of_cell? w _ hw116_0)).trans hw116_0), ((HB.out.cell (World.block_lt_of_cell? w _ hw117_0)).trans hw117_0), ((HB.out.cell (World.block_lt_of_cell? w _ hw118_0)).trans hw118_0), ((HB.out.cell (World.block_lt_of_cell? w _ hw119_0)).trans hw119_0), ((HB.out.cell (World.block_lt_of_cell? w _ hw119_1)).trans hw119_1), ((HB.out.cell (World.block_lt_of_cell? w _ hw119_2)).trans hw119_2), ((HB.out.cell (World.block_lt_of_cell? w _ hw120_0)).trans hw120_0), ((HB.out.cell (World.block_lt_of_cell? w _ hw121_0)).trans hw121_0), ((HB.out.cell (World.block_lt_of_cell? w _ hw121_1)).trans hw121_1), ((HB.out.cell (World.block_lt_of_cell? w _ hw121_2)).trans hw121_2), ((HB.out.cell (World.block_lt_of_cell? w _ hw122_0)).trans hw122_0), ((HB.out.cell (World.block_lt_of_cell? w _ hw123_0)).trans hw123_0), ((HB.out.cell (World.block_lt_of_cell? w _ hw124_0)).trans hw124_0)⟩ (fun hHeld => ?_); refine with_tabW impl_pairsOk.tab6 impl_pairsOk.bits6 (fun HT_ HW_ => ?_)
     generalize wr.drew = w26 at HB HR123_0 hx116_0 hx117_0 hx118_0 hx119_0 hx119_1 hx119_2 hx120_0 hx121_0 hx121_1 hx121_2 hx122_0 hx123_0 hx124_0 hHeld ⊢
     refine val_ (v := ?_) (a' := ?_) 0 17 bz4_1 rfl rfl HT_.out (by kernel_rfl) (by rfl) (fun _ _ _ h => h) ?_ ?_ ?_
     rotate_left
     ·intro w'
      go_simp
      with_reducible rfl
     rotate_left
     ·simp only [Act.put, s0_, s1_, s2_, i64_w, i32_w]
      rfl
     refine val_ (v := ?_) (a' := ?_) 1 18 bz4_2 rfl rfl HT_.out (by kernel_rfl) (by rfl) (fun _ _ _ h => h) ?_ ?_ ?_
     rotate_left
     ·intro w'
      go_simp
      with_reducible rfl
     rotate_left
     ·simp only [Act.put, s0_, s1_, s2_, i64_w, i32_w]
      rfl
     refine val_ (v := ?_) (a' := ?_) 2 19 bz4_3 rfl rfl HT_.out (by kernel_rfl) (by rfl) (fun _ _ _ h => h) ?_ ?_ ?_
     rotate_left
     ·intro w'
      go_simp
      with_reducible rfl
     rotate_left
     ·simp only [Act.put, s0_, s1_, s2_, i64_w, i32_w]
      rfl
     refine val_ (v := ?_) (a' := ?_) 3 20 bz4_4 rfl rfl HT_.out (by kernel_rfl) (by rfl) (fun _ _ _ h => h) ?_ ?_ ?_
     rotate_left
     ·intro w'
      go_simp
      with_reducible rfl
     rotate_left
     ·simp only [Act.put, s0_, s1_, s2_, i64_w, i32_w]
      rfl
     refine val_ (v := ?_) (a' := ?_) 4 21 bz4_5 rfl rfl HT_.out (by kernel_rfl) (by rfl) (fun _ _ _ h => h) ?_ ?_ ?_
     rotate_left
     ·intro w'
      go_simp
      with_reducible rfl
     rotate_left
     ·simp only [Act.put, s0_, s1_, s2_, i64_w, i32_w]
      rfl
     refine val_ (v := ?_) (a' := ?_) 5 22 bz4_6 rfl rfl HT_.out (by kernel_rfl) (by rfl) (fun _ _ _ h => h) ?_ ?_ ?_
     rotate_left
     ·intro w'
      go_simp
      with_reducible rfl
     rotate_left
     ·simp only [Act.put, s0_, s1_, s2_, i64_w, i32_w]
      rfl
     refine one_ (i := 6) (N := some 23) bz4_7 rfl rfl (one_of HT_.out (by kernel_rfl)) (by decide) (fun K hK => ?_)
     refine goes_ Try.func53 (by kernel_rfl) rfl #[.slice (some ad119) l0.length c0, .slice (some ad116) (rd_L1 l1 x12_1).length c114_0] (by rfl) rfl rfl (by (try simp only [List.map_toArray, List.map_cons, List.map_nil]); first | done | rfl) ?_
     with_reducible refine (impl_composedOk.calls _ _ l0 _ _ (rd_L1 l1 x12_1) true _ ?side1 ?side2 ?side3 ?side4 A8.out).mono ?_
     (case side1 => exact (Kd.C_below HR0.out HB.out))
     (case side2 => exact HC0.out)
     (case side3 => exact (Kd.C_below HR114_0.out HB.out))
     (case side4 => exact HC114_0.out)
     rintro e w27 ⟨rfl, hb⟩
     refine ⟨_, rfl, ?_⟩
     have n0_ := Aside0.mk (below_step (by repeat (first | exact HB.out | apply below_alloc | apply pw_below_drewN | apply below_drew1)) hb)
     clear HB
     have HB := n0_
     clear n0_
     (try clear hb)
     (try clear hb2)
     (try clear hk)
     (try clear hi)
     refine hK.out _ _ ⟨((HB.out.cell (World.block_lt_of_cell? w _ hw116_0)).trans hw116_0), ((HB.out.cell (World.block_lt_of_cell? w _ hw117_0)).trans hw117_0), ((HB.out.cell (World.block_lt_of_cell? w _ hw118_0)).trans hw118_0), ((HB.out.cell (World.block_lt_of_cell? w _ hw119_0)).trans hw119_0), ((HB.out.cell (World.block_lt_of_cell? w _ hw119_1)).trans hw119_1), ((HB.out.cell (World.block_lt_of_cell? w _ hw119_2)).trans hw119_2), ((HB.out.cell (World.block_lt_of_cell? w _ hw120_0)).trans hw120_0), ((HB.out.cell (World.block_lt_of_cell? w _ hw121_0)).trans hw121_0), ((HB.out.cell (World.block_lt_of_cell? w _ hw121_1)).trans hw121_1), ((HB.out.cell (World.block_lt_of_cell? w _ hw121_2)).trans hw121_2), ((HB.out.cell (World.block_lt_of_cell? w _ hw122_0)).trans hw122_0), ((HB.out.cell (World.block_lt_of_cell? w _ hw123_0)).trans hw123_0), ((HB.out.cell (World.block_lt_of_cell? w _ hw124_0)).trans hw124_0)⟩ (fun hHeld => ?_)
     clear hK K
     refine norm_ (a' := ?_) ?_ ?_
     rotate_left
     ·show Act.put _ (some 23) _ = _
      simp only [Act.put, s0_, s1_, s2_, i64_w, i32_w]
      rfl
     refine val_ (v := ?_) (a' := ?_) 7 24 bz4_8 rfl rfl HT_.out (by kernel_rfl) (by rfl) (fun _ _ _ h => h) ?_ ?_ ?_
     rotate_left
     ·intro w'
      go_simp
      with_reducible rfl
     rotate_left
     ·simp only [Act.put, s0_, s1_, s2_, i64_w, i32_w]
      rfl
     refine val_ (v := ?_) (a' := ?_) 8 25 bz4_9 rfl rfl HT_.out (by kernel_rfl) (by rfl) (fun _ _ _ h => h) ?_ ?_ ?_
     rotate_left
     ·intro w'
      go_simp
      with_reducible rfl
     rotate_left
     ·simp only [Act.put, s0_, s1_, s2_, i64_w, i32_w]
      rfl
     refine val_ (v := ?_) (a' := ?_) 9 26 bz4_10 rfl rfl HT_.out (by kernel_rfl) (by rfl) (fun _ _ _ h => h) ?_ ?_ ?_
     rotate_left
     ·intro w'
      go_simp
      with_reducible rfl
     rotate_left
     ·simp only [Act.put, s0_, s1_, s2_, i64_w, i32_w]
      rfl
     refine val_ (v := ?_) (a' := ?_) 10 27 bz4_11 rfl rfl HT_.out (by kernel_rfl) (by rfl) (fun _ _ _ h => h) ?_ ?_ ?_
     rotate_left
     ·intro w'
      go_simp
      with_reducible rfl
     rotate_left
     ·simp only [Act.put, s0_, s1_, s2_, i64_w, i32_w]
      rfl
     refine val_ (v := ?_) (a' := ?_) 11 28 bz4_12 rfl rfl HT_.out (by kernel_rfl) (by rfl) (fun _ _ _ h => h) ?_ ?_ ?_
     rotate_left
     ·intro w'
      go_simp
      with_reducible rfl
     rotate_left
     ·simp only [Act.put, s0_, s1_, s2_, i64_w, i32_w]
      rfl
     refine val_ (v := ?_) (a' := ?_) 13 30 bz4_13 rfl rfl HT_.out (by kernel_rfl) (by rfl) (fun _ _ _ h => h) ?_ ?_ ?_
     rotate_left
     ·intro w'
      go_simp
      with_reducible rfl
     rotate_left
     ·simp only [Act.put, s0_, s1_, s2_, i64_w, i32_w]
      rfl
     refine val_ (v := ?_) (a' := ?_) 14 31 bz4_14 rfl rfl HT_.out (by kernel_rfl) (by rfl) (fun _ _ _ h => h) ?_ ?_ ?_
     rotate_left
     ·intro w'
      go_simp
      with_reducible rfl
     rotate_left
     ·simp only [Act.put, s0_, s1_, s2_, i64_w, i32_w]
      rfl
     refine take_ (i := 12) (N := some 29) (v := ?_) (a' := ?_) bz4_15 rfl rfl (take_ofW HT_.out HW_.out (by kernel_rfl)) (fun _ _ _ h => h) (Or.inl ⟨by rfl, ?_⟩) hHeld ?_ ?_
     rotate_left
     ·rintro w' ⟨s0, s1, s2, s3, s4, s5, s6, s7, s8, s9, s10, s11, s12⟩
      go_simp
      with_reducible rfl
     rotate_left
     ·simp only [Act.put, s0_, s1_, s2_, i64_w, i32_w]
      rfl
     refine take_ (i := 15) (N := some 32) (v := ?_) (a' := ?_) bz4_16 rfl rfl (take_ofW HT_.out HW_.out (by kernel_rfl)) (fun _ _ _ h => h) (Or.inl ⟨by rfl, ?_⟩) hHeld ?_ ?_
     rotate_left
     ·rintro w' ⟨s0, s1, s2, s3, s4, s5, s6, s7, s8, s9, s10, s11, s12⟩
      go_simp
      with_reducible rfl
     rotate_left
     ·simp only [Act.put, s0_, s1_, s2_, i64_w, i32_w]
      rfl
     refine val_ (v := ?_) (a' := ?_) 16 33 bz4_17 rfl rfl HT_.out (by kernel_rfl) (by rfl) (fun _ _ _ h => h) ?_ ?_ ?_
     rotate_left
     ·intro w'
      go_simp
      with_reducible rfl
     rotate_left
     ·simp only [Act.put, s0_, s1_, s2_, i64_w, i32_w]
      rfl
     refine val_ (v := ?_) (a' := ?_) 17 34 bz4_18 rfl rfl HT_.out (by kernel_rfl) (by rfl) (fun _ _ _ h => h) ?_ ?_ ?_
     rotate_left
     ·intro w'
      go_simp
      with_reducible rfl
     rotate_left
     ·simp only [Act.put, s0_, s1_, s2_, i64_w, i32_w]
      rfl
     refine val_ (v := ?_) (a' := ?_) 18 35 bz4_19 rfl rfl HT_.out (by kernel_rfl) (by rfl) (fun _ _ _ h => h) ?_ ?_ ?_
     rotate_left
     ·intro w'
      go_simp
      with_reducible rfl
     rotate_left
     ·simp only [Act.put, s0_, s1_, s2_, i64_w, i32_w]
      rfl
     refine val_ (v := ?_) (a' := ?_) 19 36 bz4_25 rfl rfl HT_.out (by kernel_rfl) (by rfl) (fun _ _ _ h => h) ?_ ?_ ?_
     rotate_left
     ·intro w'
      go_simp
      with_reducible rfl
     rotate_left
     ·simp only [Act.put, s0_, s1_, s2_, i64_w, i32_w]
      rfl
     refine val_ (v := ?_) (a' := ?_) 20 37 bz4_26 rfl rfl HT_.out (by kernel_rfl) (by rfl) (fun _ _ _ h => h) ?_ ?_ ?_
     rotate_left
     ·intro w'
      go_simp
      with_reducible rfl
     rotate_left
     ·simp only [Act.put, s0_, s1_, s2_, i64_w, i32_w]
      rfl
     refine val_ (v := ?_) (a' := ?_) 21 38 bz4_27 rfl rfl HT_.out (by kernel_rfl) (by rfl) (fun _ _ _ h => h) ?_ ?_ ?_
     rotate_left
     ·intro w'
      go_simp
      with_reducible rfl
     rotate_left
     ·simp only [Act.put, s0_, s1_, s2_, i64_w, i32_w]
      rfl
     refine val_ (v := ?_) (a' := ?_) 26 43 bz4_28 rfl rfl HT_.out (by kernel_rfl) (by rfl) (fun _ _ _ h => h) ?_ ?_ ?_
     rotate_left
     ·intro w'
      go_simp
      with_reducible rfl
     rotate_left
     ·simp only [Act.put, s0_, s1_, s2_, i64_w, i32_w]
      rfl
     refine val_ (v := ?_) (a' := ?_) 27 44 bz4_29 rfl rfl HT_.out (by kernel_rfl) (by rfl) (fun _ _ _ h => h) ?_ ?_ ?_
     rotate_left
     ·intro w'
      go_simp
      with_reducible rfl
     rotate_left
     ·simp only [Act.put, s0_, s1_, s2_, i64_w, i32_w]
      rfl
     refine val_ (v := ?_) (a' := ?_) 28 45 bz4_30 rfl rfl HT_.out (by kernel_rfl) (by rfl) (fun _ _ _ h => h) ?_ ?_ ?_
     rotate_left
     ·intro w'
      go_simp
      with_reducible rfl
     rotate_left
     ·simp only [Act.put, s0_, s1_, s2_, i64_w, i32_w]
      rfl
     refine take_ (i := 22) (N := some 39) (v := ?_) (a' := ?_) bz4_31 rfl rfl (take_ofW HT_.out HW_.out (by kernel_rfl)) (fun _ _ _ h => h) (Or.inl ⟨by rfl, ?_⟩) hHeld ?_ ?_
     rotate_left
     ·rintro w' ⟨s0, s1, s2, s3, s4, s5, s6, s7, s8, s9, s10, s11, s12⟩
      go_simp
      with_reducible rfl
     rotate_left
     ·simp only [Act.put, s0_, s1_, s2_, i64_w, i32_w]
      rfl
     refine val_ (v := ?_) (a' := ?_) 23 40 bz4_32 rfl rfl HT_.out (by kernel_rfl) (by rfl) (fun _ _ _ h => h) ?_ ?_ ?_
     rotate_left
     ·intro w'
      go_simp
      with_reducible rfl
     rotate_left
     ·simp only [Act.put, s0_, s1_, s2_, i64_w, i32_w]
      rfl
     refine val_ (v := ?_) (a' := ?_) 24 41 bz4_33 rfl rfl HT_.out (by kernel_rfl) (by rfl) (fun _ _ _ h => h) ?_ ?_ ?_
     rotate_left
     ·intro w'
      go_simp
      with_reducible rfl
     rotate_left
     ·simp only [Act.put, s0_, s1_, s2_, i64_w, i32_w]
      rfl
     refine take_ (i := 25) (N := some 42) (v := ?_) (a' := ?_) bz4_34 rfl rfl (take_ofW HT_.out HW_.out (by kernel_rfl)) (fun _ _ _ h => h) (Or.inl ⟨by rfl, ?_⟩) hHeld ?_ ?_
     rotate_left
     ·rintro w' ⟨s0, s1, s2, s3, s4, s5, s6, s7, s8, s9, s10, s11, s12⟩
      go_simp
      with_reducible rfl
     rotate_left
     ·simp only [Act.put, s0_, s1_, s2_, i64_w, i32_w]
      rfl
     refine take_ (i := 29) (N := some 46) (v := ?_) (a' := ?_) bz4_35 rfl rfl (take_ofW HT_.out HW_.out (by kernel_rfl)) (fun _ _ _ h => h) (Or.inl ⟨by rfl, ?_⟩) hHeld ?_ ?_
     rotate_left
     ·rintro w' ⟨s0, s1, s2, s3, s4, s5, s6, s7, s8, s9, s10, s11, s12⟩
      go_simp
      with_reducible rfl
     rotate_left
     ·simp only [Act.put, s0_, s1_, s2_, i64_w, i32_w]
      rfl
     refine val_ (v := ?_) (a' := ?_) 30 47 bz4_36 rfl rfl HT_.out (by kernel_rfl) (by rfl) (fun _ _ _ h => h) ?_ ?_ ?_
     rotate_left
     ·intro w'
      go_simp
      with_reducible rfl
     rotate_left
     ·simp only [Act.put, s0_, s1_, s2_, i64_w, i32_w]
      rfl
     refine val_ (v := ?_) (a' := ?_) 31 48 bz4_37 rfl rfl HT_.out (by kernel_rfl) (by rfl) (fun _ _ _ h => h) ?_ ?_ ?_
     rotate_left
     ·intro w'
      go_simp
      with_reducible rfl
     rotate_left
     ·simp only [Act.put, s0_, s1_, s2_, i64_w, i32_w]
      rfl
     refine take_ (i := 32) (N := some 49) (v := ?_) (a' := ?_) bz4_38 rfl rfl (take_ofW HT_.out HW_.out (by kernel_rfl)) (fun _ _ _ h => h) (Or.inl ⟨by rfl, ?_⟩) hHeld ?_ ?_
     rotate_left
     ·rintro w' ⟨s0, s1, s2, s3, s4, s5, s6, s7, s8, s9, s10, s11, s12⟩
      go_simp
      with_reducible rfl
     rotate_left
     ·simp only [Act.put, s0_, s1_, s2_, i64_w, i32_w]
      rfl
     refine val_ (v := ?_) (a' := ?_) 33 50 bz4_20 rfl rfl HT_.out (by kernel_rfl) (by rfl) (fun _ _ _ h => h) ?_ ?_ ?_
     rotate_left
     ·intro w'
      go_simp
      with_reducible rfl
     rotate_left
     ·simp only [Act.put, s0_, s1_, s2_, i64_w, i32_w]
      rfl
     refine val_ (v := ?_) (a' := ?_) 34 51 bz4_21 rfl rfl HT_.out (by kernel_rfl) (by rfl) (fun _ _ _ h => h) ?_ ?_ ?_
     rotate_left
     ·intro w'
      go_simp
      with_reducible rfl
     rotate_left
     ·simp only [Act.put, s0_, s1_, s2_, i64_w, i32_w]
      rfl
     refine val_ (v := ?_) (a' := ?_) 35 52 bz4_22 rfl rfl HT_.out (by kernel_rfl) (by rfl) (fun _ _ _ h => h) ?_ ?_ ?_
     rotate_left
     ·intro w'
      go_simp
      with_reducible rfl
     rotate_left
     ·simp only [Act.put, s0_, s1_, s2_, i64_w, i32_w]
      rfl
     refine val_ (v := ?_) (a' := ?_) 36 53 bz4_39 rfl rfl HT_.out (by kernel_rfl) (by rfl) (fun _ _ _ h => h) ?_ ?_ ?_
     rotate_left
     ·intro w'
      go_simp
      with_reducible rfl
     rotate_left
     ·simp only [Act.put, s0_, s1_, s2_, i64_w, i32_w]
      rfl
     refine val_ (v := ?_) (a' := ?_) 37 54 bz4_40 rfl rfl HT_.out (by kernel_rfl) (by rfl) (fun _ _ _ h => h) ?_ ?_ ?_
     rotate_left
     ·intro w'
      go_simp
      with_reducible rfl
     rotate_left
     ·simp only [Act.put, s0_, s1_, s2_, i64_w, i32_w]
      rfl
     refine val_ (v := ?_) (a' := ?_) 38 55 bz4_41 rfl rfl HT_.out (by kernel_rfl) (by rfl) (fun _ _ _ h => h) ?_ ?_ ?_
     rotate_left
     ·intro w'
      go_simp
      with_reducible rfl
     rotate_left
     ·simp only [Act.put, s0_, s1_, s2_, i64_w, i32_w]
      rfl
     refine val_ (v := ?_) (a' := ?_) 39 56 bz4_42 rfl rfl HT_.out (by kernel_rfl) (by rfl) (fun _ _ _ h => h) ?_ ?_ ?_
     rotate_left
     ·intro w'
      go_simp
      with_reducible rfl
     rotate_left
     ·simp only [Act.put, s0_, s1_, s2_, i64_w, i32_w]
      rfl
     refine val_ (v := ?_) (a' := ?_) 40 57 bz4_43 rfl rfl HT_.out (by kernel_rfl) (by rfl) (fun _ _ _ h => h) ?_ ?_ ?_
     rotate_left
     ·intro w'
      go_simp
      with_reducible rfl
     rotate_left
     ·simp only [Act.put, s0_, s1_, s2_, i64_w, i32_w]
      rfl
     refine val_ (v := ?_) (a' := ?_) 42 59 bz4_44 rfl rfl HT_.out (by kernel_rfl) (by rfl) (fun _ _ _ h => h) ?_ ?_ ?_
     rotate_left
     ·intro w'
      go_simp
      with_reducible rfl
     rotate_left
     ·simp only [Act.put, s0_, s1_, s2_, i64_w, i32_w]
      rfl
     refine val_ (v := ?_) (a' := ?_) 43 60 bz4_45 rfl rfl HT_.out (by kernel_rfl) (by rfl) (fun _ _ _ h => h) ?_ ?_ ?_
     rotate_left
     ·intro w'
      go_simp
      with_reducible rfl
     rotate_left
     ·simp only [Act.put, s0_, s1_, s2_, i64_w, i32_w]
      rfl
     refine val_ (v := ?_) (a' := ?_) 44 61 bz4_46 rfl rfl HT_.out (by kernel_rfl) (by rfl) (fun _ _ _ h => h) ?_ ?_ ?_
     rotate_left
     ·intro w'
      go_simp
      with_reducible rfl
     rotate_left
     ·simp only [Act.put, s0_, s1_, s2_, i64_w, i32_w]
      rfl
     refine val_ (v := ?_) (a' := ?_) 45 62 bz4_47 rfl rfl HT_.out (by kernel_rfl) (by rfl) (fun _ _ _ h => h) ?_ ?_ ?_
     rotate_left
     ·intro w'
      go_simp
      with_reducible rfl
     rotate_left
     ·simp only [Act.put, s0_, s1_, s2_, i64_w, i32_w]
      rfl
     refine take_ (i := 41) (N := some 58) (v := ?_) (a' := ?_) bz4_48 rfl rfl (take_ofW HT_.out HW_.out (by kernel_rfl)) (fun _ _ _ h => h) (Or.inl ⟨by rfl, ?_⟩) hHeld ?_ ?_
     rotate_left
     ·rintro w' ⟨s0, s1, s2, s3, s4, s5, s6, s7, s8, s9, s10, s11, s12⟩
      go_simp
      with_reducible rfl
     rotate_left
     ·simp only [Act.put, s0_, s1_, s2_, i64_w, i32_w]
      rfl
     refine take_ (i := 46) (N := some 63) (v := ?_) (a' := ?_) bz4_49 rfl rfl (take_ofW HT_.out HW_.out (by kernel_rfl)) (fun _ _ _ h => h) (Or.inl ⟨by rfl, ?_⟩) hHeld ?_ ?_
     rotate_left
     ·rintro w' ⟨s0, s1, s2, s3, s4, s5, s6, s7, s8, s9, s10, s11, s12⟩
      go_simp
      with_reducible rfl
     rotate_left
     ·simp only [Act.put, s0_, s1_, s2_, i64_w, i32_w]
      rfl
     refine val_ (v := ?_) (a' := ?_) 47 64 bz4_50 rfl rfl HT_.out (by kernel_rfl) (by rfl) (fun _ _ _ h => h) ?_ ?_ ?_
     rotate_left
     ·intro w'
      go_simp
      with_reducible rfl
     rotate_left
     ·simp only [Act.put, s0_, s1_, s2_, i64_w, i32_w]
      rfl
     refine take_ (i := 48) (N := some 65) (v := ?_) (a' := ?_) bz4_51 rfl rfl (take_ofW HT_.out HW_.out (by kernel_rfl)) (fun _ _ _ h => h) (Or.inl ⟨by rfl, ?_⟩) hHeld ?_ ?_
     rotate_left
     ·rintro w' ⟨s0, s1, s2, s3, s4, s5, s6, s7, s8, s9, s10, s11, s12⟩
      go_simp
      with_reducible rfl
     rotate_left
     ·simp only [Act.put, s0_, s1_, s2_, i64_w, i32_w]
      rfl
     refine val_ (v := ?_) (a' := ?_) 49 66 bz4_52 rfl rfl HT_.out (by kernel_rfl) (by rfl) (fun _ _ _ h => h) ?_ ?_ ?_
     rotate_left
     ·intro w'
      go_simp
      with_reducible rfl
     rotate_left
     ·simp only [Act.put, s0_, s1_, s2_, i64_w, i32_w]
      rfl
     refine val_ (v := ?_) (a' := ?_) 50 67 bz4_23 rfl rfl HT_.out (by kernel_rfl) (by rfl) (fun _ _ _ h => h) ?_ ?_ ?_
     rotate_left
     ·intro w'
      go_simp
      with_reducible rfl
     rotate_left
     ·simp only [Act.put, s0_, s1_, s2_, i64_w, i32_w]
      rfl
     refine val_ (v := ?_) (a' := ?_) 51 68 bz4_24 rfl rfl HT_.out (by kernel_rfl) (by rfl) (fun _ _ _ h => h) ?_ ?_ ?_
     rotate_left
     ·intro w'
      go_simp
      with_reducible rfl
     rotate_left
     ·simp only [Act.put, s0_, s1_, s2_, i64_w, i32_w]
      rfl
     refine done_ (done_of HT_.out (by kernel_rfl)) ?_
     try go_wp2
     go_ret
     exact ⟨by first | rfl | (simp [errW_none, errW_some] <;> rfl) | (simp only [← hji21]; first | rfl | (simp [errW_none, errW_some] <;> rfl)) | (simp [*, errW_none, errW_some] <;> rfl), by repeat (first | exact HB.out | apply below_alloc | apply pw_below_drewN | apply below_drew1)⟩
    rw [if_pos c12] at H
    have c12b0 : ((rd (rd_L1 l1 x12_1) 0) == (rd (rd_L1 l1 x12_1) 1)) = true := beq_iff_eq.mpr c12
    have c12b1 : ((rd (rd_L1 l1 x12_1) 0) != (rd (rd_L1 l1 x12_1) 1)) = false := bne_eq_false_iff_eq.mpr c12
    clear c12
    obtain rfl := Option.some.inj H
    have p114 : 0 ≤ (x12_1 : Int) := of_decide_eq_true (by assumption)
    have q114 : x12_1 < (l1.length : Int) := of_decide_eq_true (by assumption)
    obtain ⟨ad114, A114_0, c114_0, e114, hx114_0, hl114_0, hi114_0⟩ := at_L1 HR1.out x12_1 p114 q114
    cases e114
    replace hx114_0 := (HB.out.cell (World.block_lt_of_cell? w _ hx114_0)).trans hx114_0
    have HR114_0 := Aside0.mk hi114_0
    have HC114_0 := Aside0.mk hl114_0
    clear hi114_0 hl114_0
    replace p114 := eq_true p114
    replace q114 := eq_true q114
    try go_wp2
    have n0_ := Aside0.mk (below_drew1 HB.out)
    clear HB
    have HB := n0_
    clear n0_
    have p116 : 0 ≤ (0 : Int) := (by omega)
    have q116 : 0 < ((rd_L1 l1 x12_1).length : Int) := of_decide_eq_true (by assumption)
    obtain ⟨ad116, e116, hx116_0⟩ := Kd.at_int HR114_0.out 0 p116 q116
    have hw116_0 := hx116_0
    (try rw [show ((0 : Int)).toNat = 0 from rfl] at hw116_0)
    (try rw [show 0 * 1 = 0 from rfl] at hw116_0)
    (try rw [Addr.add_zero'] at hw116_0)
    cases e116
    have qi116 : (0 < (rd_L1 l1 x12_1).length) = True := eq_true (by omega)
    (try rw [show ((0 : Int)).toNat = 0 from rfl] at hx116_0)
    (try rw [Addr.add_zero'] at hx116_0)
    replace hx116_0 := (HB.out.cell (World.block_lt_of_cell? w _ hx116_0)).trans hx116_0
    replace p116 := eq_true p116
    replace q116 := eq_true q116
    have p117 : 0 ≤ (1 : Int) := (by omega)
    have q117 : 1 < ((rd_L1 l1 x12_1).length : Int) := of_decide_eq_true (by assumption)
    obtain ⟨ad117, e117, hx117_0⟩ := Kd.at_int HR114_0.out 1 p117 q117
    have hw117_0 := hx117_0
    (try rw [show ((1 : Int)).toNat = 1 from rfl] at hw117_0)
    (try rw [show 1 * 1 = 1 from rfl] at hw117_0)
    (try simp only [Nat.reduceMul, Nat.reduceEqDiff, Go.Addr.add, ↓reduceIte] at hw117_0)
    obtain rfl : ad116 = ad117 := (by injection e117)
    (try simp only [show (1 : Int).toNat = 1 from rfl, Nat.reduceMul, Nat.reduceEqDiff, Go.Addr.add, ↓reduceIte] at hx117_0)
    have qi117 : (1 < (rd_L1 l1 x12_1).length) = True := eq_true (by omega)
    (try rw [show ((1 : Int)).toNat = 1 from rfl] at hx117_0)
    replace hx117_0 := (HB.out.cell (World.block_lt_of_cell? w _ hx117_0)).trans hx117_0
    replace p117 := eq_true p117
    replace q117 := eq_true q117
    refine start_ (n := 52) (S := fun w' => w'.cell? ad116 = some (.int .i64 (rd (rd_L1 l1 x12_1) 0)) ∧ w'.cell? ⟨ad116.block, ad116.off + 1, none⟩ = some (.int .i64 (rd (rd_L1 l1 x12_1) 1))) (ds := []) bz4_0 (by kernel_rfl) rfl rfl ⟨((HB.out.cell (World.block_lt_of_cell? w _ hw116_0)).trans hw116_0), ((HB.out.cell (World.block_lt_of_cell? w _ hw117_0)).trans hw117_0)⟩ (fun hHeld => ?_); refine with_tabW impl_pairsOk.tab6 impl_pairsOk.bits6 (fun HT_ HW_ => ?_)
    generalize wr.drew = w13 at HB hx116_0 hx117_0 hHeld ⊢
    refine val_ (v := ?_) (a' := ?_) 0 17 bz4_1 rfl rfl HT_.out (by kernel_rfl) (by rfl) (fun _ _ _ h => h) ?_ ?_ ?_
    rotate_left
    ·intro w'
     go_simp
     with_reducible rfl
    rotate_left
    ·simp only [Act.put, s0_, s1_, s2_, i64_w, i32_w]
     rfl
    refine val_ (v := ?_) (a' := ?_) 1 18 bz4_2 rfl rfl HT_.out (by kernel_rfl) (by rfl) (fun _ _ _ h => h) ?_ ?_ ?_
    rotate_left
    ·intro w'
     go_simp
     with_reducible rfl
    rotate_left
    ·simp only [Act.put, s0_, s1_, s2_, i64_w, i32_w]
     rfl
    refine val_ (v := ?_) (a' := ?_) 2 19 bz4_3 rfl rfl HT_.out (by kernel_rfl) (by rfl) (fun _ _ _ h => h) ?_ ?_ ?_
    rotate_left
    ·intro w'
     go_simp
     with_reducible rfl
    rotate_left
    ·simp only [Act.put, s0_, s1_, s2_, i64_w, i32_w]
     rfl
    refine val_ (v := ?_) (a' := ?_) 3 20 bz4_4 rfl rfl HT_.out (by kernel_rfl) (by rfl) (fun _ _ _ h => h) ?_ ?_ ?_
    rotate_left
    ·intro w'
     go_simp
     with_reducible rfl
    rotate_left
    ·simp only [Act.put, s0_, s1_, s2_, i64_w, i32_w]
     rfl
    refine val_ (v := ?_) (a' := ?_) 4 21 bz4_5 rfl rfl HT_.out (by kernel_rfl) (by rfl) (fun _ _ _ h => h) ?_ ?_ ?_
    rotate_left
    ·intro w'
     go_simp
     with_reducible rfl
    rotate_left
    ·simp only [Act.put, s0_, s1_, s2_, i64_w, i32_w]
     rfl
    refine val_ (v := ?_) (a' := ?_) 5 22 bz4_6 rfl rfl HT_.out (by kernel_rfl) (by rfl) (fun _ _ _ h => h) ?_ ?_ ?_
    rotate_left
    ·intro w'
     go_simp
     with_reducible rfl
    rotate_left
    ·simp only [Act.put, s0_, s1_, s2_, i64_w, i32_w]
     rfl
    refine one_ (i := 6) (N := some 23) bz4_7 rfl rfl (one_of HT_.out (by kernel_rfl)) (by decide) (fun K hK => ?_)
    refine goes_ Try.func53 (by kernel_rfl) rfl #[.slice A0 l0.length c0, .slice (some ad116) (rd_L1 l1 x12_1).length c114_0] (by rfl) rfl rfl (by (try simp only [List.map_toArray, List.map_cons, List.map_nil]); first | done | rfl) ?_
    with_reducible refine (impl_composedOk.calls _ _ l0 _ _ (rd_L1 l1 x12_1) true _ ?side1 ?side2 ?side3 ?side4 A8.out).mono ?_
    (case side1 => exact (Kd.C_below HR0.out HB.out))
    (case side2 => exact HC0.out)
    (case side3 => exact (Kd.C_below HR114_0.out HB.out))
    (case side4 => exact HC114_0.out)
    rintro e w14 ⟨rfl, hb⟩
    refine ⟨_, rfl, ?_⟩
    have n0_ := Aside0.mk (below_step (by repeat (first | exact HB.out | apply below_alloc | apply pw_below_drewN | apply below_drew1)) hb)
    clear HB
    have HB := n0_
    clear n0_
    (try clear hb)
    (try clear hb2)
    (try clear hk)
    (try clear hi)
    refine hK.out _ _ ⟨((HB.out.cell (World.block_lt_of_cell? w _ hw116_0)).trans hw116_0), ((HB.out.cell (World.block_lt_of_cell? w _ hw117_0)).trans hw117_0)⟩ (fun hHeld => ?_)
    clear hK K
    refine norm_ (a' := ?_) ?_ ?_
    rotate_left
    ·show Act.put _ (some 23) _ = _
     simp only [Act.put, s0_, s1_, s2_, i64_w, i32_w]
     rfl
    refine val_ (v := ?_) (a' := ?_) 7 24 bz4_8 rfl rfl HT_.out (by kernel_rfl) (by rfl) (fun _ _ _ h => h) ?_ ?_ ?_
    rotate_left
    ·intro w'
     go_simp
     with_reducible rfl
    rotate_left
    ·simp only [Act.put, s0_, s1_, s2_, i64_w, i32_w]
     rfl
    refine val_ (v := ?_) (a' := ?_) 8 25 bz4_9 rfl rfl HT_.out (by kernel_rfl) (by rfl) (fun _ _ _ h => h) ?_ ?_ ?_
    rotate_left
    ·intro w'
     go_simp
     with_reducible rfl
    rotate_left
    ·simp only [Act.put, s0_, s1_, s2_, i64_w, i32_w]
     rfl
    refine val_ (v := ?_) (a' := ?_) 9 26 bz4_10 rfl rfl HT_.out (by kernel_rfl) (by rfl) (fun _ _ _ h => h) ?_ ?_ ?_
    rotate_left
    ·intro w'
     go_simp
     with_reducible rfl
    rotate_left
    ·simp only [Act.put, s0_, s1_, s2_, i64_w, i32_w]
     rfl
    refine val_ (v := ?_) (a' := ?_) 10 27 bz4_11 rfl rfl HT_.out (by kernel_rfl) (by rfl) (fun _ _ _ h => h) ?_ ?_ ?_
    rotate_left
    ·intro w'
     go_simp
     with_reducible rfl
    rotate_left
    ·simp only [Act.put, s0_, s1_, s2_, i64_w, i32_w]
     rfl
    refine val_ (v := ?_) (a' := ?_) 11 28 bz4_12 rfl rfl HT_.out (by kernel_rfl) (by rfl) (fun _ _ _ h => h) ?_ ?_ ?_
    rotate_left
    ·intro w'
     go_simp
     with_reducible rfl
    rotate_left
    ·simp only [Act.put, s0_, s1_, s2_, i64_w, i32_w]
     rfl
    refine val_ (v := ?_) (a' := ?_) 13 30 bz4_13 rfl rfl HT_.out (by kernel_rfl) (by rfl) (fun _ _ _ h => h) ?_ ?_ ?_
    rotate_left
    ·intro w'
     go_simp
     with_reducible rfl
    rotate_left
    ·simp only [Act.put, s0_, s1_, s2_, i64_w, i32_w]
     rfl
    refine val_ (v := ?_) (a' := ?_) 14 31 bz4_14 rfl rfl HT_.out (by kernel_rfl) (by rfl) (fun _ _ _ h => h) ?_ ?_ ?_
    rotate_left
    ·intro w'
     go_simp
     with_reducible rfl
    rotate_left
    ·simp only [Act.put, s0_, s1_, s2_, i64_w, i32_w]
     rfl
    refine take_ (i := 12) (N := some 29) (v := ?_) (a' := ?_) bz4_15 rfl rfl (take_ofW HT_.out HW_.out (by kernel_rfl)) (fun _ _ _ h => h) (Or.inl ⟨by rfl, ?_⟩) hHeld ?_ ?_
    rotate_left
    ·rintro w' ⟨s0, s1⟩
     go_simp
     with_reducible rfl
    rotate_left
    ·simp only [Act.put, s0_, s1_, s2_, i64_w, i32_w]
     rfl
    refine take_ (i := 15) (N := some 32) (v := ?_) (a' := ?_) bz4_16 rfl rfl (take_ofW HT_.out HW_.out (by kernel_rfl)) (fun _ _ _ h => h) (Or.inl ⟨by rfl, ?_⟩) hHeld ?_ ?_
    rotate_left
    ·rintro w' ⟨s0, s1⟩
     go_simp
     with_reducible rfl
    rotate_left
    ·simp only [Act.put, s0_, s1_, s2_, i64_w, i32_w]
     rfl
    refine val_ (v := ?_) (a' := ?_) 16 33 bz4_17 rfl rfl HT_.out (by kernel_rfl) (by rfl) (fun _ _ _ h => h) ?_ ?_ ?_
    rotate_left
    ·intro w'
     go_simp
     with_reducible rfl
    rotate_left
    ·simp only [Act.put, s0_, s1_, s2_, i64_w, i32_w]
     rfl
    refine val_ (v := ?_) (a' := ?_) 17 34 bz4_18 rfl rfl HT_.out (by kernel_rfl) (by rfl) (fun _ _ _ h => h) ?_ ?_ ?_
    rotate_left
    ·intro w'
     go_simp
     with_reducible rfl
    rotate_left
    ·simp only [Act.put, s0_, s1_, s2_, i64_w, i32_w]
     rfl
    refine val_ (v := ?_) (a' := ?_) 18 35 bz4_19 rfl rfl HT_.out (by kernel_rfl) (by rfl) (fun _ _ _ h => h) ?_ ?_ ?_
    rotate_left
    ·intro w'
     go_simp
     with_reducible rfl
    rotate_left
    ·simp only [Act.put, s0_, s1_, s2_, i64_w, i32_w]
     rfl
    refine unds_ [(19, 36), (20, 37), (21, 38), (22, 39), (23, 40), (24, 41), (25, 42), (26, 43), (27, 44), (28, 45), (29, 46), (30, 47), (31, 48), (32, 49), (33, 50)] (a' := ?_) 18 bz4_20 HT_.out (by kernel_rfl) (by kernel_rfl) (fun _ _ _ _ _ h => h) rfl ?_ ?_
    rotate_left
    ·simp only [putU, Act.put, s0_, s1_, s2_, i64_w, i32_w]
     rfl
    refine val_ (v := ?_) (a' := ?_) 34 51 bz4_21 rfl rfl HT_.out (by kernel_rfl) (by rfl) (fun _ _ _ h => h) ?_ ?_ ?_
    rotate_left
    ·intro w'
     go_simp
     with_reducible rfl
    rotate_left
    ·simp only [Act.put, s0_, s1_, s2_, i64_w, i32_w]
     rfl
    refine val_ (v := ?_) (a' := ?_) 35 52 bz4_22 rfl rfl HT_.out (by kernel_rfl) (by rfl) (fun _ _ _ h => h) ?_ ?_ ?_
    rotate_left
    ·intro w'
     go_simp
     with_reducible rfl
    rotate_left
    ·simp only [Act.put, s0_, s1_, s2_, i64_w, i32_w]
     rfl
    refine unds_ [(36, 53), (37, 54), (38, 55), (39, 56), (40, 57), (41, 58), (42, 59), (43, 60), (44, 61), (45, 62), (46, 63), (47, 64), (48, 65), (49, 66), (50, 67)] (a' := ?_) 1 bz4_23 HT_.out (by kernel_rfl) (by kernel_rfl) (fun _ _ _ _ _ h => h) rfl ?_ ?_
    rotate_left
    ·simp only [putU, Act.put, s0_, s1_, s2_, i64_w, i32_w]
     rfl
    refine val_ (v := ?_) (a' := ?_) 51 68 bz4_24 rfl rfl HT_.out (by kernel_rfl) (by rfl) (fun _ _ _ h => h) ?_ ?_ ?_
    rotate_left
    ·intro w'
     go_simp
     with_reducible rfl
    rotate_left
    ·simp only [Act.put, s0_, s1_, s2_, i64_w, i32_w]
     rfl
    refine done_ (done_of HT_.out (by kernel_rfl)) ?_
    try go_wp2
    go_ret
    exact ⟨by first | rfl | (simp [errW_none, errW_some] <;> rfl) | (simp [*, errW_none, errW_some] <;> rfl), by repeat (first | exact HB.out | apply below_alloc | apply pw_below_drewN | apply below_drew1)⟩
 rw [if_pos c3] at H
 have c3b0 : decide (8 < (l1.length : Int)) = true := decide_eq_true c3
 have c3b1 : decide (8 < l1.length) = true := decide_eq_true (by omega)
 clear c3
 obtain rfl := Option.some.inj H
 go_enter Try.func66, Try.ntmps66
 go_wp2
 go_ret
 exact ⟨by first | rfl | (simp [errW_none, errW_some] <;> rfl) | (simp [*, errW_none, errW_some] <;> rfl), by repeat (first | exact HB.out | apply below_alloc | apply pw_below_drewN | apply below_drew1)⟩

end Go.Proofs.Ytagjleeckbnddaa.PFnExactOpenAndClosed
