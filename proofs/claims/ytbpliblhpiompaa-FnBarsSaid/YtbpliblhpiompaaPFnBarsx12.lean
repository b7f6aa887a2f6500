-- written by xprint.py, a program of this repo over the kit's print; not trusted: Lean checks it
import Derived.Test.YtbpliblhpiompaaPFnBarsx0
import Derived.Test.YtbpliblhpiompaaPFnBarsx2
import Derived.Test.YtbpliblhpiompaaPFnBarsx6
import Derived.Test.YtbpliblhpiompaaPFnBarsx7
import Derived.Test.YtbpliblhpiompaaPFnBarsx9
import Derived.Test.YtbpliblhpiompaaPFnBarsx10
import Derived.Test.YtbpliblhpiompaaPFnBarsx11
namespace Go.Proofs.Ytbpliblhpiompaa.PFnBars
open Go.RowKit Go.Proofs.YtbpliblhpiompaaW.PrintWords Go.Proofs.YtbpliblhpiompaaW.PrintLast Go.Proofs.YtbpliblhpiompaaW.PrintMore
attribute [local go_sem] max2_int min2_int max_two min_two max_three min_three max_four min_four   -- for this text's walks alone
set_option linter.unusedVariables false
set_option linter.unusedSimpArgs false

/-! ### laws_FnBars: function 4 -/
mutual
def laws_FnBars.j0 : Nat → List (S51) → Int → Int → Int → List (S51) → List Int → Bool → ByteArray → List Int → List Int → Option (Bool)
  | 0, _, _, _, _, _, _, _, _, _, _ => none
  | k + 1, x5, x7, x10, x14, x16, x18, x101, x335000, x335001, x335002 => if x101 = true then (some false) else ((spec_DurationOf.f k x16).bind fun bt351 => (if bt351.2 = 0 then (if bt351.1 < x14 then (laws_FnBars.j1 k x5 x7 x10 x18 true x335000 x335001 x335002) else (if (wrap64 (bt351.1 - x14)) ≥ x10 then (laws_FnBars.j1 k x5 x7 x10 x18 true x335000 x335001 x335002) else (if x10 = 0 then (none) else (if (Int.tmod bt351.1 x10) = 0 then (if (x16.length : Int) < (x5.length : Int) then (laws_FnBars.j1 k x5 x7 x10 x18 true x335000 x335001 x335002) else (if 0 ≤ (x5.length : Int) then (if (x5.length : Int) ≤ (x16.length : Int) then ((spec_SameMelody.f k (x16.take ((x5.length : Int) : Int).toNat) x5).bind fun t357 => (laws_FnBars.j1 k x5 x7 x10 x18 (!t357) x335000 x335001 x335002)) else (none)) else (none))) else (laws_FnBars.j1 k x5 x7 x10 x18 true x335000 x335001 x335002))))) else (laws_FnBars.j1 k x5 x7 x10 x18 true x335000 x335001 x335002)))
def laws_FnBars.j1 : Nat → List (S51) → Int → Int → List Int → Bool → ByteArray → List Int → List Int → Option (Bool)
  | 0, _, _, _, _, _, _, _, _ => none
  | k + 1, x5, x7, x10, x18, x142, x335000, x335001, x335002 => if x142 = true then (some false) else (laws_FnBars.l0 k x5 x7 x10 x18 0 0 x335000 x335001 x335002)
def laws_FnBars.l0 : Nat → List (S51) → Int → Int → List Int → Int → Int → ByteArray → List Int → List Int → Option (Bool)
  | 0, _, _, _, _, _, _, _, _, _ => none
  | k + 1, x5, x7, x10, x18, x22, x23, x335000, x335001, x335002 => if x23 < (x5.length : Int) then ((laws_r8Has.f k x18 x23).bind fun t358 => (if x10 = 0 then (none) else (if (t358 != ((Int.tmod x22 x10) == 0)) = true then (some false) else (if 0 ≤ x23 then (laws_FnBars.l0 k x5 x7 x10 x18 (wrap64 (x22 + ((rd_T51 x5 x23).f1))) (wrap64 (x23 + 1)) x335000 x335001 x335002) else (none))))) else ((impl_SplitNotes.f k x5 x335000 x335001 x335002 x7).bind fun bt360 => (if bt360.2 = 0 then (if 0 ≤ (x5.length : Int) then (if ((x5.length : Int) : Int).toNat ≤ 35184372088832 then (laws_FnBars.l1 k x5 bt360.1 (List.replicate ((x5.length : Int) : Int).toNat 0) 0) else (none)) else (none)) else (some (bt360.2 == 5))))
def laws_FnBars.l1 : Nat → List (S51) → List (List Int) → List Int → Int → Option (Bool)
  | 0, _, _, _, _ => none
  | k + 1, x5, x24, x26, x27 => if x27 < (x24.length : Int) then (if 0 ≤ x27 then (if ((rd_L3 x24 x27).length : Int) = 2 then (if 0 < ((rd_L3 x24 x27).length : Int) then (if (rd (rd_L3 x24 x27) 0) < 0 then (some false) else (if (rd (rd_L3 x24 x27) 0) ≥ (x5.length : Int) then (some false) else (if 1 < ((rd_L3 x24 x27).length : Int) then (if (rd (rd_L3 x24 x27) 1) < 1 then (some false) else (if 0 ≤ (rd (rd_L3 x24 x27) 0) then (if (rd (rd_L3 x24 x27) 0) < (x26.length : Int) then (laws_FnBars.l1 k x5 x24 (x26.set ((rd (rd_L3 x24 x27) 0) : Int).toNat (wrap64 ((rd x26 (rd (rd_L3 x24 x27) 0)) + (rd (rd_L3 x24 x27) 1)))) (wrap64 (x27 + 1))) else (none)) else (none))) else (none)))) else (none)) else (some false)) else (none)) else (laws_FnBars.l2 k x5 x26 0)
def laws_FnBars.l2 : Nat → List (S51) → List Int → Int → Option (Bool)
  | 0, _, _, _ => none
  | k + 1, x5, x26, x28 => if x28 < (x5.length : Int) then (if 0 ≤ x28 then (if x28 < (x26.length : Int) then (if (rd x26 x28) = ((rd_T51 x5 x28).f1) then (laws_FnBars.l2 k x5 x26 (wrap64 (x28 + 1))) else (some false)) else (none)) else (none)) else (some true)
end
def laws_FnBars.f (k : Nat) (l0 : List Int) (l1 : List Int) : Option (Bool) := (laws_r8Long.f l0 l1).bind fun t323 => (if t323 = true then (some true) else ((spec_R8Melody.f k l0).bind fun t324 => ((spec_R8Tala.f k l1).bind fun bt327 => ((laws_r8At.f l1 0 4).bind fun t335 => ((spec_BeatCount.f k bt327.1 bt327.2.1 bt327.2.2).bind fun bt336 => ((impl_CyclesOf.f k t324 bt327.1 bt327.2.1 bt327.2.2 (wrap64 (1 + t335))).bind fun bt338 => ((spec_DurationOf.f k t324).bind fun bt341 => ((impl_PadMelody.f k t324 bt327.1 bt327.2.1 bt327.2.2 (wrap64 (1 + t335)) 0).bind fun bt343 => ((impl_NotesAtSam.f k t324 bt327.1 bt327.2.1 bt327.2.2 (wrap64 (1 + t335))).bind fun bt347 => (if bt338.2.2 = 0 then (if bt338.2.1 < 0 then (laws_FnBars.j0 k t324 (wrap64 (1 + t335)) (wrap64 (bt336.1 * (wrap64 (1 + t335)))) bt341.1 bt343.1 bt347.1 true bt327.1 bt327.2.1 bt327.2.2) else (if bt338.2.1 ≥ (wrap64 (bt336.1 * (wrap64 (1 + t335)))) then (laws_FnBars.j0 k t324 (wrap64 (1 + t335)) (wrap64 (bt336.1 * (wrap64 (1 + t335)))) bt341.1 bt343.1 bt347.1 true bt327.1 bt327.2.1 bt327.2.2) else (if (wrap64 ((wrap64 (bt338.1 * (wrap64 (bt336.1 * (wrap64 (1 + t335)))))) + bt338.2.1)) = bt341.1 then (if bt343.2 = 0 then (laws_FnBars.j0 k t324 (wrap64 (1 + t335)) (wrap64 (bt336.1 * (wrap64 (1 + t335)))) bt341.1 bt343.1 bt347.1 (bt347.2 != 0) bt327.1 bt327.2.1 bt327.2.2) else (laws_FnBars.j0 k t324 (wrap64 (1 + t335)) (wrap64 (bt336.1 * (wrap64 (1 + t335)))) bt341.1 bt343.1 bt347.1 true bt327.1 bt327.2.1 bt327.2.2)) else (laws_FnBars.j0 k t324 (wrap64 (1 + t335)) (wrap64 (bt336.1 * (wrap64 (1 + t335)))) bt341.1 bt343.1 bt347.1 true bt327.1 bt327.2.1 bt327.2.2)))) else (laws_FnBars.j0 k t324 (wrap64 (1 + t335)) (wrap64 (bt336.1 * (wrap64 (1 + t335)))) bt341.1 bt343.1 bt347.1 true bt327.1 bt327.2.1 bt327.2.2)))))))))))
theorem laws_FnBars.mono_l : ∀ k, (∀ y0 y1 y2 y3 y4 y5 y6 y7 y8 y9, LeO (laws_FnBars.j0 k y0 y1 y2 y3 y4 y5 y6 y7 y8 y9) (laws_FnBars.j0 (k + 1) y0 y1 y2 y3 y4 y5 y6 y7 y8 y9)) ∧ (∀ y0 y1 y2 y3 y4 y5 y6 y7, LeO (laws_FnBars.j1 k y0 y1 y2 y3 y4 y5 y6 y7) (laws_FnBars.j1 (k + 1) y0 y1 y2 y3 y4 y5 y6 y7)) ∧ (∀ y0 y1 y2 y3 y4 y5 y6 y7 y8, LeO (laws_FnBars.l0 k y0 y1 y2 y3 y4 y5 y6 y7 y8) (laws_FnBars.l0 (k + 1) y0 y1 y2 y3 y4 y5 y6 y7 y8)) ∧ (∀ y0 y1 y2 y3, LeO (laws_FnBars.l1 k y0 y1 y2 y3) (laws_FnBars.l1 (k + 1) y0 y1 y2 y3)) ∧ (∀ y0 y1 y2, LeO (laws_FnBars.l2 k y0 y1 y2) (laws_FnBars.l2 (k + 1) y0 y1 y2))
  | 0 => ⟨fun _ _ _ _ _ _ _ _ _ _ r h => by simp [laws_FnBars.j0] at h, fun _ _ _ _ _ _ _ _ r h => by simp [laws_FnBars.j1] at h, fun _ _ _ _ _ _ _ _ _ r h => by simp [laws_FnBars.l0] at h, fun _ _ _ _ r h => by simp [laws_FnBars.l1] at h, fun _ _ _ r h => by simp [laws_FnBars.l2] at h⟩
  | k + 1 => by
    obtain ⟨ih0, ih1, ih2, ih3, ih4⟩ := laws_FnBars.mono_l k
    refine ⟨?_, ?_, ?_, ?_, ?_⟩
    · intro y0 y1 y2 y3 y4 y5 y6 y7 y8 y9
      unfold laws_FnBars.j0
      repeat' first
      | (with_reducible exact ih0 _ _ _ _ _ _ _ _ _ _)
      | (with_reducible exact ih1 _ _ _ _ _ _ _ _)
      | (with_reducible exact ih2 _ _ _ _ _ _ _ _ _)
      | (with_reducible exact ih3 _ _ _ _)
      | (with_reducible exact ih4 _ _ _)
      | (with_reducible exact impl_CyclesOf.mono _ _ _ _ _ _)
      | (with_reducible exact impl_NotesAtSam.mono _ _ _ _ _ _)
      | (with_reducible exact impl_PadMelody.mono _ _ _ _ _ _ _)
      | (with_reducible exact impl_SplitNotes.mono _ _ _ _ _ _)
      | (with_reducible exact laws_r8Has.mono _ _ _)
      | (with_reducible exact spec_BeatCount.mono _ _ _ _)
      | (with_reducible exact spec_DurationOf.mono _ _)
      | (with_reducible exact spec_R8Melody.mono _ _)
      | (with_reducible exact spec_R8Tala.mono _ _)
      | (with_reducible exact spec_SameMelody.mono _ _ _)
      | (with_reducible exact LeO.refl _)
      | (with_reducible exact LeO.none _)
      | (with_reducible refine LeO.ite ?_ ?_)
      | (with_reducible refine LeO.bind ?_ (fun _ => ?_))
      | exact ih0 _ _ _ _ _ _ _ _ _ _
      | exact ih1 _ _ _ _ _ _ _ _
      | exact ih2 _ _ _ _ _ _ _ _ _
      | exact ih3 _ _ _ _
      | exact ih4 _ _ _
      | exact impl_CyclesOf.mono _ _ _ _ _ _
      | exact impl_NotesAtSam.mono _ _ _ _ _ _
      | exact impl_PadMelody.mono _ _ _ _ _ _ _
      | exact impl_SplitNotes.mono _ _ _ _ _ _
      | exact laws_r8Has.mono _ _ _
      | exact spec_BeatCount.mono _ _ _ _
      | exact spec_DurationOf.mono _ _
      | exact spec_R8Melody.mono _ _
      | exact spec_R8Tala.mono _ _
      | exact spec_SameMelody.mono _ _ _
      | exact LeO.none _
      | refine LeO.ite ?_ ?_
      | refine LeO.bind ?_ (fun _ => ?_)
    · intro y0 y1 y2 y3 y4 y5 y6 y7
      unfold laws_FnBars.j1
      repeat' first
      | (with_reducible exact ih0 _ _ _ _ _ _ _ _ _ _)
      | (with_reducible exact ih1 _ _ _ _ _ _ _ _)
      | (with_reducible exact ih2 _ _ _ _ _ _ _ _ _)
      | (with_reducible exact ih3 _ _ _ _)
      | (with_reducible exact ih4 _ _ _)
      | (with_reducible exact impl_CyclesOf.mono _ _ _ _ _ _)
      | (with_reducible exact impl_NotesAtSam.mono _ _ _ _ _ _)
      | (with_reducible exact impl_PadMelody.mono _ _ _ _ _ _ _)
      | (with_reducible exact impl_SplitNotes.mono _ _ _ _ _ _)
      | (with_reducible exact laws_r8Has.mono _ _ _)
      | (with_reducible exact spec_BeatCount.mono _ _ _ _)
      | (with_reducible exact spec_DurationOf.mono _ _)
      | (with_reducible exact spec_R8Melody.mono _ _)
      | (with_reducible exact spec_R8Tala.mono _ _)
      | (with_reducible exact spec_SameMelody.mono _ _ _)
      | (with_reducible exact LeO.refl _)
      | (with_reducible exact LeO.none _)
      | (with_reducible refine LeO.ite ?_ ?_)
      | (with_reducible refine LeO.bind ?_ (fun _ => ?_))
      | exact ih0 _ _ _ _ _ _ _ _ _ _
      | exact ih1 _ _ _ _ _ _ _ _
      | exact ih2 _ _ _ _ _ _ _ _ _
      | exact ih3 _ _ _ _
      | exact ih4 _ _ _
      | exact impl_CyclesOf.mono _ _ _ _ _ _
      | exact impl_NotesAtSam.mono _ _ _ _ _ _
      | exact impl_PadMelody.mono _ _ _ _ _ _ _
      | exact impl_SplitNotes.mono _ _ _ _ _ _
      | exact laws_r8Has.mono _ _ _
      | exact spec_BeatCount.mono _ _ _ _
      | exact spec_DurationOf.mono _ _
      | exact spec_R8Melody.mono _ _
      | exact spec_R8Tala.mono _ _
      | exact spec_SameMelody.mono _ _ _
      | exact LeO.none _
      | refine LeO.ite ?_ ?_
      | refine LeO.bind ?_ (fun _ => ?_)
    · intro y0 y1 y2 y3 y4 y5 y6 y7 y8
      unfold laws_FnBars.l0
      repeat' first
      | (with_reducible exact ih0 _ _ _ _ _ _ _ _ _ _)
      | (with_reducible exact ih1 _ _ _ _ _ _ _ _)
      | (with_reducible exact ih2 _ _ _ _ _ _ _ _ _)
      | (with_reducible exact ih3 _ _ _ _)
      | (with_reducible exact ih4 _ _ _)
      | (with_reducible exact impl_CyclesOf.mono _ _ _ _ _ _)
      | (with_reducible exact impl_NotesAtSam.mono _ _ _ _ _ _)
      | (with_reducible exact impl_PadMelody.mono _ _ _ _ _ _ _)
      | (with_reducible exact impl_SplitNotes.mono _ _ _ _ _ _)
      | (with_reducible exact laws_r8Has.mono _ _ _)
      | (with_reducible exact spec_BeatCount.mono _ _ _ _)
      | (with_reducible exact spec_DurationOf.mono _ _)
      | (with_reducible exact spec_R8Melody.mono _ _)
      | (with_reducible exact spec_R8Tala.mono _ _)
      | (with_reducible exact spec_SameMelody.mono _ _ _)
      | (with_reducible exact LeO.refl _)
      | (with_reducible exact LeO.none _)
      | (with_reducible refine LeO.ite ?_ ?_)
      | (with_reducible refine LeO.bind ?_ (fun _ => ?_))
      | exact ih0 _ _ _ _ _ _ _ _ _ _
      | exact ih1 _ _ _ _ _ _ _ _
      | exact ih2 _ _ _ _ _ _ _ _ _
      | exact ih3 _ _ _ _
      | exact ih4 _ _ _
      | exact impl_CyclesOf.mono _ _ _ _ _ _
      | exact impl_NotesAtSam.mono _ _ _ _ _ _
      | exact impl_PadMelody.mono _ _ _ _ _ _ _
      | exact impl_SplitNotes.mono _ _ _ _ _ _
      | exact laws_r8Has.mono _ _ _
      | exact spec_BeatCount.mono _ _ _ _
      | exact spec_DurationOf.mono _ _
      | exact spec_R8Melody.mono _ _
      | exact spec_R8Tala.mono _ _
      | exact spec_SameMelody.mono _ _ _
      | exact LeO.none _
      | refine LeO.ite ?_ ?_
      | refine LeO.bind ?_ (fun _ => ?_)
    · intro y0 y1 y2 y3
      unfold laws_FnBars.l1
      repeat' first
      | (with_reducible exact ih0 _ _ _ _ _ _ _ _ _ _)
      | (with_reducible exact ih1 _ _ _ _ _ _ _ _)
      | (with_reducible exact ih2 _ _ _ _ _ _ _ _ _)
      | (with_reducible exact ih3 _ _ _ _)
      | (with_reducible exact ih4 _ _ _)
      | (with_reducible exact impl_CyclesOf.mono _ _ _ _ _ _)
      | (with_reducible exact impl_NotesAtSam.mono _ _ _ _ _ _)
      | (with_reducible exact impl_PadMelody.mono _ _ _ _ _ _ _)
      | (with_reducible exact impl_SplitNotes.mono _ _ _ _ _ _)
      | (with_reducible exact laws_r8Has.mono _ _ _)
      | (with_reducible exact spec_BeatCount.mono _ _ _ _)
      | (with_reducible exact spec_DurationOf.mono _ _)
      | (with_reducible exact spec_R8Melody.mono _ _)
      | (with_reducible exact spec_R8Tala.mono _ _)
      | (with_reducible exact spec_SameMelody.mono _ _ _)
      | (with_reducible exact LeO.refl _)
      | (with_reducible exact LeO.none _)
      | (with_reducible refine LeO.ite ?_ ?_)
      | (with_reducible refine LeO.bind ?_ (fun _ => ?_))
      | exact ih0 _ _ _ _ _ _ _ _ _ _
      | exact ih1 _ _ _ _ _ _ _ _
      | exact ih2 _ _ _ _ _ _ _ _ _
      | exact ih3 _ _ _ _
      | exact ih4 _ _ _
      | exact impl_CyclesOf.mono _ _ _ _ _ _
      | exact impl_NotesAtSam.mono _ _ _ _ _ _
      | exact impl_PadMelody.mono _ _ _ _ _ _ _
      | exact impl_SplitNotes.mono _ _ _ _ _ _
      | exact laws_r8Has.mono _ _ _
      | exact spec_BeatCount.mono _ _ _ _
      | exact spec_DurationOf.mono _ _
      | exact spec_R8Melody.mono _ _
      | exact spec_R8Tala.mono _ _
      | exact spec_SameMelody.mono _ _ _
      | exact LeO.none _
      | refine LeO.ite ?_ ?_
      | refine LeO.bind ?_ (fun _ => ?_)
    · intro y0 y1 y2
      unfold laws_FnBars.l2
      repeat' first
      | (with_reducible exact ih0 _ _ _ _ _ _ _ _ _ _)
      | (with_reducible exact ih1 _ _ _ _ _ _ _ _)
      | (with_reducible exact ih2 _ _ _ _ _ _ _ _ _)
      | (with_reducible exact ih3 _ _ _ _)
      | (with_reducible exact ih4 _ _ _)
      | (with_reducible exact impl_CyclesOf.mono _ _ _ _ _ _)
      | (with_reducible exact impl_NotesAtSam.mono _ _ _ _ _ _)
      | (with_reducible exact impl_PadMelody.mono _ _ _ _ _ _ _)
      | (with_reducible exact impl_SplitNotes.mono _ _ _ _ _ _)
      | (with_reducible exact laws_r8Has.mono _ _ _)
      | (with_reducible exact spec_BeatCount.mono _ _ _ _)
      | (with_reducible exact spec_DurationOf.mono _ _)
      | (with_reducible exact spec_R8Melody.mono _ _)
      | (with_reducible exact spec_R8Tala.mono _ _)
      | (with_reducible exact spec_SameMelody.mono _ _ _)
      | (with_reducible exact LeO.refl _)
      | (with_reducible exact LeO.none _)
      | (with_reducible refine LeO.ite ?_ ?_)
      | (with_reducible refine LeO.bind ?_ (fun _ => ?_))
      | exact ih0 _ _ _ _ _ _ _ _ _ _
      | exact ih1 _ _ _ _ _ _ _ _
      | exact ih2 _ _ _ _ _ _ _ _ _
      | exact ih3 _ _ _ _
      | exact ih4 _ _ _
      | exact impl_CyclesOf.mono _ _ _ _ _ _
      | exact impl_NotesAtSam.mono _ _ _ _ _ _
      | exact impl_PadMelody.mono _ _ _ _ _ _ _
      | exact impl_SplitNotes.mono _ _ _ _ _ _
      | exact laws_r8Has.mono _ _ _
      | exact spec_BeatCount.mono _ _ _ _
      | exact spec_DurationOf.mono _ _
      | exact spec_R8Melody.mono _ _
      | exact spec_R8Tala.mono _ _
      | exact spec_SameMelody.mono _ _ _
      | exact LeO.none _
      | refine LeO.ite ?_ ?_
      | refine LeO.bind ?_ (fun _ => ?_)
theorem laws_FnBars.mono : ∀ a0 a1 k, LeO (laws_FnBars.f k a0 a1) (laws_FnBars.f (k + 1) a0 a1) := by
  intro a0 a1 k
  obtain ⟨ih0, ih1, ih2, ih3, ih4⟩ := laws_FnBars.mono_l k
  unfold laws_FnBars.f
  repeat' first
      | (with_reducible exact ih0 _ _ _ _ _ _ _ _ _ _)
      | (with_reducible exact ih1 _ _ _ _ _ _ _ _)
      | (with_reducible exact ih2 _ _ _ _ _ _ _ _ _)
      | (with_reducible exact ih3 _ _ _ _)
      | (with_reducible exact ih4 _ _ _)
      | (with_reducible exact impl_CyclesOf.mono _ _ _ _ _ _)
      | (with_reducible exact impl_NotesAtSam.mono _ _ _ _ _ _)
      | (with_reducible exact impl_PadMelody.mono _ _ _ _ _ _ _)
      | (with_reducible exact impl_SplitNotes.mono _ _ _ _ _ _)
      | (with_reducible exact laws_r8Has.mono _ _ _)
      | (with_reducible exact spec_BeatCount.mono _ _ _ _)
      | (with_reducible exact spec_DurationOf.mono _ _)
      | (with_reducible exact spec_R8Melody.mono _ _)
      | (with_reducible exact spec_R8Tala.mono _ _)
      | (with_reducible exact spec_SameMelody.mono _ _ _)
      | (with_reducible exact LeO.refl _)
      | (with_reducible exact LeO.none _)
      | (with_reducible refine LeO.ite ?_ ?_)
      | (with_reducible refine LeO.bind ?_ (fun _ => ?_))
      | exact ih0 _ _ _ _ _ _ _ _ _ _
      | exact ih1 _ _ _ _ _ _ _ _
      | exact ih2 _ _ _ _ _ _ _ _ _
      | exact ih3 _ _ _ _
      | exact ih4 _ _ _
      | exact impl_CyclesOf.mono _ _ _ _ _ _
      | exact impl_NotesAtSam.mono _ _ _ _ _ _
      | exact impl_PadMelody.mono _ _ _ _ _ _ _
      | exact impl_SplitNotes.mono _ _ _ _ _ _
      | exact laws_r8Has.mono _ _ _
      | exact spec_BeatCount.mono _ _ _ _
      | exact spec_DurationOf.mono _ _
      | exact spec_R8Melody.mono _ _
      | exact spec_R8Tala.mono _ _
      | exact spec_SameMelody.mono _ _ _
      | exact LeO.none _
      | refine LeO.ite ?_ ?_
      | refine LeO.bind ?_ (fun _ => ?_)
def laws_FnBars.T21 : Bool × List (List Nat × List Nat) := (true, [([], []), ([], []), ([0, 1], [0, 1]), ([], []), ([], []), ([3, 4], [3, 4]), ([5], [5]), ([2, 6], [2, 6])])
def laws_FnBars.B21 : List Nat := [0, 0, 3, 0, 0, 24, 56, 127]
theorem laws_FnBars.tab21 : rtab .any (opsOf Try.f4 21) = laws_FnBars.T21 := by kernel_rfl
theorem laws_FnBars.bits21 : waitsOk laws_FnBars.T21.2 laws_FnBars.B21 = true := by kernel_rfl
def laws_FnBars.T33 : Bool × List (List Nat × List Nat) := (true, [([], []), ([], []), ([], []), ([1, 2], [1, 2]), ([3], [3]), ([4], [4]), ([5], [5]), ([0, 6], [0, 6]), ([7], [7]), ([], []), ([], []), ([9, 10], [9, 10]), ([11], [11]), ([12], [12]), ([13], [13]), ([8, 14], [8, 14]), ([0, 6, 0, 1, 2, 3, 4, 5, 6, 7, 8, 9, 10, 11, 12, 13, 14, 15], [0, 6]), ([16, 15, 0, 1, 2, 3, 4, 5, 6, 7, 8, 9, 10, 11, 12, 13, 14, 15], [15, 16])])
def laws_FnBars.B33 : List Nat := [0, 0, 0, 6, 14, 30, 62, 127, 255, 0, 0, 1536, 3584, 7680, 15872, 32767, 65535, 131071]
theorem laws_FnBars.tab33 : rtab .any (opsOf Try.f4 33) = laws_FnBars.T33 := by kernel_rfl
theorem laws_FnBars.bits33 : waitsOk laws_FnBars.T33.2 laws_FnBars.B33 = true := by kernel_rfl
def laws_FnBars.T37 : Bool × List (List Nat × List Nat) := (true, [([], []), ([], []), ([0, 1], [0, 1]), ([2], [2]), ([], []), ([], []), ([4, 5], [4, 5]), ([6], [6]), ([7], [7]), ([3, 8], [3, 8])])
def laws_FnBars.B37 : List Nat := [0, 0, 3, 7, 0, 0, 48, 112, 240, 511]
theorem laws_FnBars.tab37 : rtab .any (opsOf Try.f4 37) = laws_FnBars.T37 := by kernel_rfl
theorem laws_FnBars.bits37 : waitsOk laws_FnBars.T37.2 laws_FnBars.B37 = true := by kernel_rfl
set_option maxHeartbeats 8000000 in
set_option maxRecDepth 100000 in
theorem laws_FnBars.calls (k : Nat) (A0 : Option Addr) (c0 : Nat) (l0 : List Int) (A1 : Option Addr) (c1 : Nat) (l1 : List Int) (r : Bool) (w : World) (hr0 : Kd.C (Kd.int .u8) w A0 l0.length l0) (hc0 : l0.length ≤ c0) (hr1 : Kd.C (Kd.int .u8) w A1 l1.length l1) (hc1 : l1.length ≤ c1) (h : laws_FnBars.f k l0 l1 = some r) :
    Calls Try.prog 4 #[.slice A0 l0.length c0, .slice A1 l1.length c1] w fun e w' => e = .returned (.bool r) ∧ Below w.heap.size w w' := by
  have hu26 := Try.underlying26
  have HR0 := Aside0.mk hr0
  have HC0 := Aside0.mk hc0
  clear hr0 hc0
  have HR1 := Aside0.mk hr1
  have HC1 := Aside0.mk hc1
  clear hr1 hc1
  have HB := Aside0.mk (Below.refl w.heap.size w)
  have H : ((laws_r8Long.f l0 l1).bind fun t323 => (if t323 = true then (some true) else ((spec_R8Melody.f k l0).bind fun t324 => ((spec_R8Tala.f k l1).bind fun bt327 => ((laws_r8At.f l1 0 4).bind fun t335 => ((spec_BeatCount.f k bt327.1 bt327.2.1 bt327.2.2).bind fun bt336 => ((impl_CyclesOf.f k t324 bt327.1 bt327.2.1 bt327.2.2 (wrap64 (1 + t335))).bind fun bt338 => ((spec_DurationOf.f k t324).bind fun bt341 => ((impl_PadMelody.f k t324 bt327.1 bt327.2.1 bt327.2.2 (wrap64 (1 + t335)) 0).bind fun bt343 => ((impl_NotesAtSam.f k t324 bt327.1 bt327.2.1 bt327.2.2 (wrap64 (1 + t335))).bind fun bt347 => (if bt338.2.2 = 0 then (if bt338.2.1 < 0 then (laws_FnBars.j0 k t324 (wrap64 (1 + t335)) (wrap64 (bt336.1 * (wrap64 (1 + t335)))) bt341.1 bt343.1 bt347.1 true bt327.1 bt327.2.1 bt327.2.2) else (if bt338.2.1 ≥ (wrap64 (bt336.1 * (wrap64 (1 + t335)))) then (laws_FnBars.j0 k t324 (wrap64 (1 + t335)) (wrap64 (bt336.1 * (wrap64 (1 + t335)))) bt341.1 bt343.1 bt347.1 true bt327.1 bt327.2.1 bt327.2.2) else (if (wrap64 ((wrap64 (bt338.1 * (wrap64 (bt336.1 * (wrap64 (1 + t335)))))) + bt338.2.1)) = bt341.1 then (if bt343.2 = 0 then (laws_FnBars.j0 k t324 (wrap64 (1 + t335)) (wrap64 (bt336.1 * (wrap64 (1 + t335)))) bt341.1 bt343.1 bt347.1 (bt347.2 != 0) bt327.1 bt327.2.1 bt327.2.2) else (laws_FnBars.j0 k t324 (wrap64 (1 + t335)) (wrap64 (bt336.1 * (wrap64 (1 + t335)))) bt341.1 bt343.1 bt347.1 true bt327.1 bt327.2.1 bt327.2.2)) else (laws_FnBars.j0 k t324 (wrap64 (1 + t335)) (wrap64 (bt336.1 * (wrap64 (1 + t335)))) bt341.1 bt343.1 bt347.1 true bt327.1 bt327.2.1 bt327.2.2)))) else (laws_FnBars.j0 k t324 (wrap64 (1 + t335)) (wrap64 (bt336.1 * (wrap64 (1 + t335)))) bt341.1 bt343.1 bt347.1 true bt327.1 bt327.2.1 bt327.2.2)))))))))))) = some r := h
  clear h
  replace H := Option.bind_eq_some_iff.mp H
  obtain ⟨t323, A30, H⟩ := H
  replace H : (if t323 = true then (some true) else ((spec_R8Melody.f k l0).bind fun t324 => ((spec_R8Tala.f k l1).bind fun bt327 => ((laws_r8At.f l1 0 4).bind fun t335 => ((spec_BeatCount.f k bt327.1 bt327.2.1 bt327.2.2).bind fun bt336 => ((impl_CyclesOf.f k t324 bt327.1 bt327.2.1 bt327.2.2 (wrap64 (1 + t335))).bind fun bt338 => ((spec_DurationOf.f k t324).bind fun bt341 => ((impl_PadMelody.f k t324 bt327.1 bt327.2.1 bt327.2.2 (wrap64 (1 + t335)) 0).bind fun bt343 => ((impl_NotesAtSam.f k t324 bt327.1 bt327.2.1 bt327.2.2 (wrap64 (1 + t335))).bind fun bt347 => (if bt338.2.2 = 0 then (if bt338.2.1 < 0 then (laws_FnBars.j0 k t324 (wrap64 (1 + t335)) (wrap64 (bt336.1 * (wrap64 (1 + t335)))) bt341.1 bt343.1 bt347.1 true bt327.1 bt327.2.1 bt327.2.2) else (if bt338.2.1 ≥ (wrap64 (bt336.1 * (wrap64 (1 + t335)))) then (laws_FnBars.j0 k t324 (wrap64 (1 + t335)) (wrap64 (bt336.1 * (wrap64 (1 + t335)))) bt341.1 bt343.1 bt347.1 true bt327.1 bt327.2.1 bt327.2.2) else (if (wrap64 ((wrap64 (bt338.1 * (wrap64 (bt336.1 * (wrap64 (1 + t335)))))) + bt338.2.1)) = bt341.1 then (if bt343.2 = 0 then (laws_FnBars.j0 k t324 (wrap64 (1 + t335)) (wrap64 (bt336.1 * (wrap64 (1 + t335)))) bt341.1 bt343.1 bt347.1 (bt347.2 != 0) bt327.1 bt327.2.1 bt327.2.2) else (laws_FnBars.j0 k t324 (wrap64 (1 + t335)) (wrap64 (bt336.1 * (wrap64 (1 + t335)))) bt341.1 bt343.1 bt347.1 true bt327.1 bt327.2.1 bt327.2.2)) else (laws_FnBars.j0 k t324 (wrap64 (1 + t335)) (wrap64 (bt336.1 * (wrap64 (1 + t335)))) bt341.1 bt343.1 bt347.1 true bt327.1 bt327.2.1 bt327.2.2)))) else (laws_FnBars.j0 k t324 (wrap64 (1 + t335)) (wrap64 (bt336.1 * (wrap64 (1 + t335)))) bt341.1 bt343.1 bt347.1 true bt327.1 bt327.2.1 bt327.2.2))))))))))) = some r := H
  have A3 := Aside0.mk A30
  clear A30
  by_cases c4 : t323 = true
  · subst c4
    have H1 : (some true) = some r := by rw [if_pos rfl] at H; exact H
    clear H
    have H := H1
    clear H1
    obtain rfl := Option.some.inj H
    go_enter Try.func4, Try.ntmps4
    go_wp2_with (first | ((with_reducible refine gate_callee (f := 5) rfl ?_); refine goesL_ (some 31) rfl rfl Try.func5 (by kernel_rfl) rfl #[.slice A0 l0.length c0, .slice A1 l1.length c1] rfl (by (try simp only [List.map_toArray, List.map_cons, List.map_nil]); first | done | rfl | (simp only [List.length_drop, List.length_take]; rfl)) ?_; (with_reducible refine (laws_r8Long.calls _ _ l0 _ _ l1 true _ ?side1 ?side2 ?side3 ?side4 A3.out).mono ?_); (case side1 => repeat (first | exact HR0.out | (with_reducible refine Kd.C_alloc ?_ _) | (with_reducible refine Kd.C_drewN ?_ _) | (with_reducible refine Kd.C_drew ?_))); (case side2 => exact HC0.out); (case side3 => repeat (first | exact HR1.out | (with_reducible refine Kd.C_alloc ?_ _) | (with_reducible refine Kd.C_drewN ?_ _) | (with_reducible refine Kd.C_drew ?_))); (case side4 => exact HC1.out); rintro e w' ⟨rfl, ⟨nd, rfl⟩⟩; refine ⟨_, rfl, ?_⟩))
    go_ret
    exact ⟨by first | rfl | (simp [errW_none, errW_some] <;> rfl) | (simp [*, errW_none, errW_some] <;> rfl), by repeat (first | (with_reducible first | exact HB.out | apply below_alloc | apply pw_below_drewN | apply below_drew1) | exact HB.out)⟩
  · replace c4 := Bool.eq_false_iff.mpr c4
    subst c4
    have H1 : ((spec_R8Melody.f k l0).bind fun t324 => ((spec_R8Tala.f k l1).bind fun bt327 => ((laws_r8At.f l1 0 4).bind fun t335 => ((spec_BeatCount.f k bt327.1 bt327.2.1 bt327.2.2).bind fun bt336 => ((impl_CyclesOf.f k t324 bt327.1 bt327.2.1 bt327.2.2 (wrap64 (1 + t335))).bind fun bt338 => ((spec_DurationOf.f k t324).bind fun bt341 => ((impl_PadMelody.f k t324 bt327.1 bt327.2.1 bt327.2.2 (wrap64 (1 + t335)) 0).bind fun bt343 => ((impl_NotesAtSam.f k t324 bt327.1 bt327.2.1 bt327.2.2 (wrap64 (1 + t335))).bind fun bt347 => (if bt338.2.2 = 0 then (if bt338.2.1 < 0 then (laws_FnBars.j0 k t324 (wrap64 (1 + t335)) (wrap64 (bt336.1 * (wrap64 (1 + t335)))) bt341.1 bt343.1 bt347.1 true bt327.1 bt327.2.1 bt327.2.2) else (if bt338.2.1 ≥ (wrap64 (bt336.1 * (wrap64 (1 + t335)))) then (laws_FnBars.j0 k t324 (wrap64 (1 + t335)) (wrap64 (bt336.1 * (wrap64 (1 + t335)))) bt341.1 bt343.1 bt347.1 true bt327.1 bt327.2.1 bt327.2.2) else (if (wrap64 ((wrap64 (bt338.1 * (wrap64 (bt336.1 * (wrap64 (1 + t335)))))) + bt338.2.1)) = bt341.1 then (if bt343.2 = 0 then (laws_FnBars.j0 k t324 (wrap64 (1 + t335)) (wrap64 (bt336.1 * (wrap64 (1 + t335)))) bt341.1 bt343.1 bt347.1 (bt347.2 != 0) bt327.1 bt327.2.1 bt327.2.2) else (laws_FnBars.j0 k t324 (wrap64 (1 + t335)) (wrap64 (bt336.1 * (wrap64 (1 + t335)))) bt341.1 bt343.1 bt347.1 true bt327.1 bt327.2.1 bt327.2.2)) else (laws_FnBars.j0 k t324 (wrap64 (1 + t335)) (wrap64 (bt336.1 * (wrap64 (1 + t335)))) bt341.1 bt343.1 bt347.1 true bt327.1 bt327.2.1 bt327.2.2)))) else (laws_FnBars.j0 k t324 (wrap64 (1 + t335)) (wrap64 (bt336.1 * (wrap64 (1 + t335)))) bt341.1 bt343.1 bt347.1 true bt327.1 bt327.2.1 bt327.2.2)))))))))) = some r := by rw [if_neg (show ¬ (false = true) by decide)] at H; exact H
    clear H
    have H := H1
    clear H1
    replace H := Option.bind_eq_some_iff.mp H
    obtain ⟨t324, A50, H⟩ := H
    replace H : ((spec_R8Tala.f k l1).bind fun bt327 => ((laws_r8At.f l1 0 4).bind fun t335 => ((spec_BeatCount.f k bt327.1 bt327.2.1 bt327.2.2).bind fun bt336 => ((impl_CyclesOf.f k t324 bt327.1 bt327.2.1 bt327.2.2 (wrap64 (1 + t335))).bind fun bt338 => ((spec_DurationOf.f k t324).bind fun bt341 => ((impl_PadMelody.f k t324 bt327.1 bt327.2.1 bt327.2.2 (wrap64 (1 + t335)) 0).bind fun bt343 => ((impl_NotesAtSam.f k t324 bt327.1 bt327.2.1 bt327.2.2 (wrap64 (1 + t335))).bind fun bt347 => (if bt338.2.2 = 0 then (if bt338.2.1 < 0 then (laws_FnBars.j0 k t324 (wrap64 (1 + t335)) (wrap64 (bt336.1 * (wrap64 (1 + t335)))) bt341.1 bt343.1 bt347.1 true bt327.1 bt327.2.1 bt327.2.2) else (if bt338.2.1 ≥ (wrap64 (bt336.1 * (wrap64 (1 + t335)))) then (laws_FnBars.j0 k t324 (wrap64 (1 + t335)) (wrap64 (bt336.1 * (wrap64 (1 + t335)))) bt341.1 bt343.1 bt347.1 true bt327.1 bt327.2.1 bt327.2.2) else (if (wrap64 ((wrap64 (bt338.1 * (wrap64 (bt336.1 * (wrap64 (1 + t335)))))) + bt338.2.1)) = bt341.1 then (if bt343.2 = 0 then (laws_FnBars.j0 k t324 (wrap64 (1 + t335)) (wrap64 (bt336.1 * (wrap64 (1 + t335)))) bt341.1 bt343.1 bt347.1 (bt347.2 != 0) bt327.1 bt327.2.1 bt327.2.2) else (laws_FnBars.j0 k t324 (wrap64 (1 + t335)) (wrap64 (bt336.1 * (wrap64 (1 + t335)))) bt341.1 bt343.1 bt347.1 true bt327.1 bt327.2.1 bt327.2.2)) else (laws_FnBars.j0 k t324 (wrap64 (1 + t335)) (wrap64 (bt336.1 * (wrap64 (1 + t335)))) bt341.1 bt343.1 bt347.1 true bt327.1 bt327.2.1 bt327.2.2)))) else (laws_FnBars.j0 k t324 (wrap64 (1 + t335)) (wrap64 (bt336.1 * (wrap64 (1 + t335)))) bt341.1 bt343.1 bt347.1 true bt327.1 bt327.2.1 bt327.2.2))))))))) = some r := H
    have A5 := Aside0.mk A50
    clear A50
    replace H := Option.bind_eq_some_iff.mp H
    obtain ⟨⟨t327, t328, t331⟩, A60, H⟩ := H
    replace H : ((laws_r8At.f l1 0 4).bind fun t335 => ((spec_BeatCount.f k t327 t328 t331).bind fun bt336 => ((impl_CyclesOf.f k t324 t327 t328 t331 (wrap64 (1 + t335))).bind fun bt338 => ((spec_DurationOf.f k t324).bind fun bt341 => ((impl_PadMelody.f k t324 t327 t328 t331 (wrap64 (1 + t335)) 0).bind fun bt343 => ((impl_NotesAtSam.f k t324 t327 t328 t331 (wrap64 (1 + t335))).bind fun bt347 => (if bt338.2.2 = 0 then (if bt338.2.1 < 0 then (laws_FnBars.j0 k t324 (wrap64 (1 + t335)) (wrap64 (bt336.1 * (wrap64 (1 + t335)))) bt341.1 bt343.1 bt347.1 true t327 t328 t331) else (if bt338.2.1 ≥ (wrap64 (bt336.1 * (wrap64 (1 + t335)))) then (laws_FnBars.j0 k t324 (wrap64 (1 + t335)) (wrap64 (bt336.1 * (wrap64 (1 + t335)))) bt341.1 bt343.1 bt347.1 true t327 t328 t331) else (if (wrap64 ((wrap64 (bt338.1 * (wrap64 (bt336.1 * (wrap64 (1 + t335)))))) + bt338.2.1)) = bt341.1 then (if bt343.2 = 0 then (laws_FnBars.j0 k t324 (wrap64 (1 + t335)) (wrap64 (bt336.1 * (wrap64 (1 + t335)))) bt341.1 bt343.1 bt347.1 (bt347.2 != 0) t327 t328 t331) else (laws_FnBars.j0 k t324 (wrap64 (1 + t335)) (wrap64 (bt336.1 * (wrap64 (1 + t335)))) bt341.1 bt343.1 bt347.1 true t327 t328 t331)) else (laws_FnBars.j0 k t324 (wrap64 (1 + t335)) (wrap64 (bt336.1 * (wrap64 (1 + t335)))) bt341.1 bt343.1 bt347.1 true t327 t328 t331)))) else (laws_FnBars.j0 k t324 (wrap64 (1 + t335)) (wrap64 (bt336.1 * (wrap64 (1 + t335)))) bt341.1 bt343.1 bt347.1 true t327 t328 t331)))))))) = some r := H
    have A6 := Aside0.mk A60
    clear A60
    replace H := Option.bind_eq_some_iff.mp H
    obtain ⟨t335, A70, H⟩ := H
    replace H : ((spec_BeatCount.f k t327 t328 t331).bind fun bt336 => ((impl_CyclesOf.f k t324 t327 t328 t331 (wrap64 (1 + t335))).bind fun bt338 => ((spec_DurationOf.f k t324).bind fun bt341 => ((impl_PadMelody.f k t324 t327 t328 t331 (wrap64 (1 + t335)) 0).bind fun bt343 => ((impl_NotesAtSam.f k t324 t327 t328 t331 (wrap64 (1 + t335))).bind fun bt347 => (if bt338.2.2 = 0 then (if bt338.2.1 < 0 then (laws_FnBars.j0 k t324 (wrap64 (1 + t335)) (wrap64 (bt336.1 * (wrap64 (1 + t335)))) bt341.1 bt343.1 bt347.1 true t327 t328 t331) else (if bt338.2.1 ≥ (wrap64 (bt336.1 * (wrap64 (1 + t335)))) then (laws_FnBars.j0 k t324 (wrap64 (1 + t335)) (wrap64 (bt336.1 * (wrap64 (1 + t335)))) bt341.1 bt343.1 bt347.1 true t327 t328 t331) else (if (wrap64 ((wrap64 (bt338.1 * (wrap64 (bt336.1 * (wrap64 (1 + t335)))))) + bt338.2.1)) = bt341.1 then (if bt343.2 = 0 then (laws_FnBars.j0 k t324 (wrap64 (1 + t335)) (wrap64 (bt336.1 * (wrap64 (1 + t335)))) bt341.1 bt343.1 bt347.1 (bt347.2 != 0) t327 t328 t331) else (laws_FnBars.j0 k t324 (wrap64 (1 + t335)) (wrap64 (bt336.1 * (wrap64 (1 + t335)))) bt341.1 bt343.1 bt347.1 true t327 t328 t331)) else (laws_FnBars.j0 k t324 (wrap64 (1 + t335)) (wrap64 (bt336.1 * (wrap64 (1 + t335)))) bt341.1 bt343.1 bt347.1 true t327 t328 t331)))) else (laws_FnBars.j0 k t324 (wrap64 (1 + t335)) (wrap64 (bt336.1 * (wrap64 (1 + t335)))) bt341.1 bt343.1 bt347.1 true t327 t328 t331))))))) = some r := H
    have A7 := Aside0.mk A70
    clear A70
    replace H := Option.bind_eq_some_iff.mp H
    obtain ⟨⟨t336, t337⟩, A80, H⟩ := H
    replace H : ((impl_CyclesOf.f k t324 t327 t328 t331 (wrap64 (1 + t335))).bind fun bt338 => ((spec_DurationOf.f k t324).bind fun bt341 => ((impl_PadMelody.f k t324 t327 t328 t331 (wrap64 (1 + t335)) 0).bind fun bt343 => ((impl_NotesAtSam.f k t324 t327 t328 t331 (wrap64 (1 + t335))).bind fun bt347 => (if bt338.2.2 = 0 then (if bt338.2.1 < 0 then (laws_FnBars.j0 k t324 (wrap64 (1 + t335)) (wrap64 (t336 * (wrap64 (1 + t335)))) bt341.1 bt343.1 bt347.1 true t327 t328 t331) else (if bt338.2.1 ≥ (wrap64 (t336 * (wrap64 (1 + t335)))) then (laws_FnBars.j0 k t324 (wrap64 (1 + t335)) (wrap64 (t336 * (wrap64 (1 + t335)))) bt341.1 bt343.1 bt347.1 true t327 t328 t331) else (if (wrap64 ((wrap64 (bt338.1 * (wrap64 (t336 * (wrap64 (1 + t335)))))) + bt338.2.1)) = bt341.1 then (if bt343.2 = 0 then (laws_FnBars.j0 k t324 (wrap64 (1 + t335)) (wrap64 (t336 * (wrap64 (1 + t335)))) bt341.1 bt343.1 bt347.1 (bt347.2 != 0) t327 t328 t331) else (laws_FnBars.j0 k t324 (wrap64 (1 + t335)) (wrap64 (t336 * (wrap64 (1 + t335)))) bt341.1 bt343.1 bt347.1 true t327 t328 t331)) else (laws_FnBars.j0 k t324 (wrap64 (1 + t335)) (wrap64 (t336 * (wrap64 (1 + t335)))) bt341.1 bt343.1 bt347.1 true t327 t328 t331)))) else (laws_FnBars.j0 k t324 (wrap64 (1 + t335)) (wrap64 (t336 * (wrap64 (1 + t335)))) bt341.1 bt343.1 bt347.1 true t327 t328 t331)))))) = some r := H
    have A8 := Aside0.mk A80
    clear A80
    replace H := Option.bind_eq_some_iff.mp H
    obtain ⟨⟨t338, t339, t340⟩, A90, H⟩ := H
    replace H : ((spec_DurationOf.f k t324).bind fun bt341 => ((impl_PadMelody.f k t324 t327 t328 t331 (wrap64 (1 + t335)) 0).bind fun bt343 => ((impl_NotesAtSam.f k t324 t327 t328 t331 (wrap64 (1 + t335))).bind fun bt347 => (if t340 = 0 then (if t339 < 0 then (laws_FnBars.j0 k t324 (wrap64 (1 + t335)) (wrap64 (t336 * (wrap64 (1 + t335)))) bt341.1 bt343.1 bt347.1 true t327 t328 t331) else (if t339 ≥ (wrap64 (t336 * (wrap64 (1 + t335)))) then (laws_FnBars.j0 k t324 (wrap64 (1 + t335)) (wrap64 (t336 * (wrap64 (1 + t335)))) bt341.1 bt343.1 bt347.1 true t327 t328 t331) else (if (wrap64 ((wrap64 (t338 * (wrap64 (t336 * (wrap64 (1 + t335)))))) + t339)) = bt341.1 then (if bt343.2 = 0 then (laws_FnBars.j0 k t324 (wrap64 (1 + t335)) (wrap64 (t336 * (wrap64 (1 + t335)))) bt341.1 bt343.1 bt347.1 (bt347.2 != 0) t327 t328 t331) else (laws_FnBars.j0 k t324 (wrap64 (1 + t335)) (wrap64 (t336 * (wrap64 (1 + t335)))) bt341.1 bt343.1 bt347.1 true t327 t328 t331)) else (laws_FnBars.j0 k t324 (wrap64 (1 + t335)) (wrap64 (t336 * (wrap64 (1 + t335)))) bt341.1 bt343.1 bt347.1 true t327 t328 t331)))) else (laws_FnBars.j0 k t324 (wrap64 (1 + t335)) (wrap64 (t336 * (wrap64 (1 + t335)))) bt341.1 bt343.1 bt347.1 true t327 t328 t331))))) = some r := H
    have A9 := Aside0.mk A90
    clear A90
    replace H := Option.bind_eq_some_iff.mp H
    obtain ⟨⟨t341, t342⟩, A100, H⟩ := H
    replace H : ((impl_PadMelody.f k t324 t327 t328 t331 (wrap64 (1 + t335)) 0).bind fun bt343 => ((impl_NotesAtSam.f k t324 t327 t328 t331 (wrap64 (1 + t335))).bind fun bt347 => (if t340 = 0 then (if t339 < 0 then (laws_FnBars.j0 k t324 (wrap64 (1 + t335)) (wrap64 (t336 * (wrap64 (1 + t335)))) t341 bt343.1 bt347.1 true t327 t328 t331) else (if t339 ≥ (wrap64 (t336 * (wrap64 (1 + t335)))) then (laws_FnBars.j0 k t324 (wrap64 (1 + t335)) (wrap64 (t336 * (wrap64 (1 + t335)))) t341 bt343.1 bt347.1 true t327 t328 t331) else (if (wrap64 ((wrap64 (t338 * (wrap64 (t336 * (wrap64 (1 + t335)))))) + t339)) = t341 then (if bt343.2 = 0 then (laws_FnBars.j0 k t324 (wrap64 (1 + t335)) (wrap64 (t336 * (wrap64 (1 + t335)))) t341 bt343.1 bt347.1 (bt347.2 != 0) t327 t328 t331) else (laws_FnBars.j0 k t324 (wrap64 (1 + t335)) (wrap64 (t336 * (wrap64 (1 + t335)))) t341 bt343.1 bt347.1 true t327 t328 t331)) else (laws_FnBars.j0 k t324 (wrap64 (1 + t335)) (wrap64 (t336 * (wrap64 (1 + t335)))) t341 bt343.1 bt347.1 true t327 t328 t331)))) else (laws_FnBars.j0 k t324 (wrap64 (1 + t335)) (wrap64 (t336 * (wrap64 (1 + t335)))) t341 bt343.1 bt347.1 true t327 t328 t331)))) = some r := H
    have A10 := Aside0.mk A100
    clear A100
    replace H := Option.bind_eq_some_iff.mp H
    obtain ⟨⟨t343, t346⟩, A110, H⟩ := H
    replace H : ((impl_NotesAtSam.f k t324 t327 t328 t331 (wrap64 (1 + t335))).bind fun bt347 => (if t340 = 0 then (if t339 < 0 then (laws_FnBars.j0 k t324 (wrap64 (1 + t335)) (wrap64 (t336 * (wrap64 (1 + t335)))) t341 t343 bt347.1 true t327 t328 t331) else (if t339 ≥ (wrap64 (t336 * (wrap64 (1 + t335)))) then (laws_FnBars.j0 k t324 (wrap64 (1 + t335)) (wrap64 (t336 * (wrap64 (1 + t335)))) t341 t343 bt347.1 true t327 t328 t331) else (if (wrap64 ((wrap64 (t338 * (wrap64 (t336 * (wrap64 (1 + t335)))))) + t339)) = t341 then (if t346 = 0 then (laws_FnBars.j0 k t324 (wrap64 (1 + t335)) (wrap64 (t336 * (wrap64 (1 + t335)))) t341 t343 bt347.1 (bt347.2 != 0) t327 t328 t331) else (laws_FnBars.j0 k t324 (wrap64 (1 + t335)) (wrap64 (t336 * (wrap64 (1 + t335)))) t341 t343 bt347.1 true t327 t328 t331)) else (laws_FnBars.j0 k t324 (wrap64 (1 + t335)) (wrap64 (t336 * (wrap64 (1 + t335)))) t341 t343 bt347.1 true t327 t328 t331)))) else (laws_FnBars.j0 k t324 (wrap64 (1 + t335)) (wrap64 (t336 * (wrap64 (1 + t335)))) t341 t343 bt347.1 true t327 t328 t331))) = some r := H
    have A11 := Aside0.mk A110
    clear A110
    replace H := Option.bind_eq_some_iff.mp H
    obtain ⟨⟨t347, t350⟩, A120, H⟩ := H
    replace H : (if t340 = 0 then (if t339 < 0 then (laws_FnBars.j0 k t324 (wrap64 (1 + t335)) (wrap64 (t336 * (wrap64 (1 + t335)))) t341 t343 t347 true t327 t328 t331) else (if t339 ≥ (wrap64 (t336 * (wrap64 (1 + t335)))) then (laws_FnBars.j0 k t324 (wrap64 (1 + t335)) (wrap64 (t336 * (wrap64 (1 + t335)))) t341 t343 t347 true t327 t328 t331) else (if (wrap64 ((wrap64 (t338 * (wrap64 (t336 * (wrap64 (1 + t335)))))) + t339)) = t341 then (if t346 = 0 then (laws_FnBars.j0 k t324 (wrap64 (1 + t335)) (wrap64 (t336 * (wrap64 (1 + t335)))) t341 t343 t347 (t350 != 0) t327 t328 t331) else (laws_FnBars.j0 k t324 (wrap64 (1 + t335)) (wrap64 (t336 * (wrap64 (1 + t335)))) t341 t343 t347 true t327 t328 t331)) else (laws_FnBars.j0 k t324 (wrap64 (1 + t335)) (wrap64 (t336 * (wrap64 (1 + t335)))) t341 t343 t347 true t327 t328 t331)))) else (laws_FnBars.j0 k t324 (wrap64 (1 + t335)) (wrap64 (t336 * (wrap64 (1 + t335)))) t341 t343 t347 true t327 t328 t331)) = some r := H
    have A12 := Aside0.mk A120
    clear A120
    have HC13 := Aside0.mk H
    clear H
    go_enter Try.func4, Try.ntmps4
    go_upto_region 12 with (first | ((with_reducible refine gate_callee (f := 5) rfl ?_); refine goesL_ (some 31) rfl rfl Try.func5 (by kernel_rfl) rfl #[.slice A0 l0.length c0, .slice A1 l1.length c1] rfl (by (try simp only [List.map_toArray, List.map_cons, List.map_nil]); first | done | rfl | (simp only [List.length_drop, List.length_take]; rfl)) ?_; (with_reducible refine (laws_r8Long.calls _ _ l0 _ _ l1 false _ ?side1 ?side2 ?side3 ?side4 A3.out).mono ?_); (case side1 => repeat (first | exact HR0.out | (with_reducible refine Kd.C_alloc ?_ _) | (with_reducible refine Kd.C_drewN ?_ _) | (with_reducible refine Kd.C_drew ?_))); (case side2 => exact HC0.out); (case side3 => repeat (first | exact HR1.out | (with_reducible refine Kd.C_alloc ?_ _) | (with_reducible refine Kd.C_drewN ?_ _) | (with_reducible refine Kd.C_drew ?_))); (case side4 => exact HC1.out); rintro e w' ⟨rfl, ⟨nd, rfl⟩⟩; refine ⟨_, rfl, ?_⟩) | ((with_reducible refine gate_callee (f := 19) rfl ?_); refine goesL_ (some 33) rfl rfl Try.func19 (by kernel_rfl) rfl #[.slice A0 l0.length c0] rfl (by (try simp only [List.map_toArray, List.map_cons, List.map_nil]); first | done | rfl | (simp only [List.length_drop, List.length_take]; rfl)) ?_; (with_reducible refine (spec_R8Melody.calls k _ _ l0 t324 _ ?side1 ?side2 A5.out).mono ?_); (case side1 => repeat (first | exact HR0.out | (with_reducible refine Kd.C_alloc ?_ _) | (with_reducible refine Kd.C_drewN ?_ _) | (with_reducible refine Kd.C_drew ?_))); (case side2 => exact HC0.out); rintro e w14 ⟨v325, rfl, ho0, hb⟩; refine ⟨_, rfl, ?_⟩; have n0_ := Aside0.mk (Kd.R_lower ho0 (below_size (by repeat (first | (with_reducible first | exact HB.out | apply below_alloc | apply pw_below_drewN | apply below_drew1) | exact HB.out)))); have n1_ := Aside0.mk (below_step (by repeat (first | (with_reducible first | exact HB.out | apply below_alloc | apply pw_below_drewN | apply below_drew1) | exact HB.out)) hb); clear HB; have HO326 := n0_; have HB := n1_; clear n0_ n1_; (try clear hb); (try clear hb2); (try clear hk); (try clear hi); (try clear ho0)) | ((with_reducible refine gate_callee (f := 6) rfl ?_); refine goesL_ (some 35) rfl rfl Try.func6 (by kernel_rfl) rfl #[.slice A1 l1.length c1] rfl (by (try simp only [List.map_toArray, List.map_cons, List.map_nil]); first | done | rfl | (simp only [List.length_drop, List.length_take]; rfl)) ?_; (with_reducible refine (spec_R8Tala.calls k _ _ l1 t327 t328 t331 _ ?side1 ?side2 A6.out).mono ?_); (case side1 => repeat (first | exact (Kd.C_below HR1.out HB.out) | (with_reducible refine Kd.C_alloc ?_ _) | (with_reducible refine Kd.C_drewN ?_ _) | (with_reducible refine Kd.C_drew ?_))); (case side2 => exact HC1.out); rintro e w15 ⟨v329, v332, rfl, ho0, ho1, hb⟩; refine ⟨_, rfl, ?_⟩; have n0_ := Aside0.mk (Kd.R_below (by (with_reducible repeat (first | apply Kd.R_alloc | apply Kd.R_drewN | apply Kd.R_drew)); exact HO326.out) hb); have n1_ := Aside0.mk (Kd.R_lower ho0 (below_size (by repeat (first | (with_reducible first | exact HB.out | apply below_alloc | apply pw_below_drewN | apply below_drew1) | exact HB.out)))); have n2_ := Aside0.mk (Kd.R_lower ho1 (below_size (by repeat (first | (with_reducible first | exact HB.out | apply below_alloc | apply pw_below_drewN | apply below_drew1) | exact HB.out)))); have n3_ := Aside0.mk (below_step (by repeat (first | (with_reducible first | exact HB.out | apply below_alloc | apply pw_below_drewN | apply below_drew1) | exact HB.out)) hb); clear HO326; clear HB; have HO326 := n0_; have HO330 := n1_; have HO333 := n2_; have HB := n3_; clear n0_ n1_ n2_ n3_; (try clear hb); (try clear hb2); (try clear hk); (try clear hi); (try clear ho0); (try clear ho1)) | ((with_reducible refine gate_dst (N := 6) rfl ?_); (try (refine gate_guard (by rfl) ?_; dsimp only)); refine box_event ?hg (N := 6) ?hd (cs := #[.string (⟨#[]⟩ : ByteArray), .slice none 0 0, .slice none 0 0]) (t := 26) ?hr ?_; (case hd => rfl); (case hg => rfl); (case hr => first | (go_simp; done) | (go_simp; rfl)); intro gb334 hg w16 hbox hb; have n0_ := Aside0.mk (Kd.R_below (by (with_reducible repeat (first | apply Kd.R_alloc | apply Kd.R_drewN | apply Kd.R_drew)); exact HO326.out) hb); have n1_ := Aside0.mk (Kd.R_below (by (with_reducible repeat (first | apply Kd.R_alloc | apply Kd.R_drewN | apply Kd.R_drew)); exact HO330.out) hb); have n2_ := Aside0.mk (Kd.R_below (by (with_reducible repeat (first | apply Kd.R_alloc | apply Kd.R_drewN | apply Kd.R_drew)); exact HO333.out) hb); have n3_ := Aside0.mk (below_step (by repeat (first | (with_reducible first | exact HB.out | apply below_alloc | apply pw_below_drewN | apply below_drew1) | exact HB.out)) hb); have n4_ := Aside0.mk (hbox); have n5_ := Aside0.mk ((by rw [hg]; exact (below_size (by repeat (first | (with_reducible first | exact HB.out | apply below_alloc | apply pw_below_drewN | apply below_drew1) | exact HB.out))) : w.heap.size ≤ gb334)); have n6_ := Aside0.mk ((by rw [hg]; exact (below_size (by repeat (first | (with_reducible first | exact HB.out | apply below_alloc | apply pw_below_drewN | apply below_drew1) | exact HB.out))) : w.heap.size ≤ gb334)); clear HO326; clear HO330; clear HO333; clear HB; have HO326 := n0_; have HO330 := n1_; have HO333 := n2_; have HB := n3_; have BK334 := n4_; have GW334 := n5_; have GE334 := n6_; clear n0_ n1_ n2_ n3_ n4_ n5_ n6_; clear hb hbox hg; have hcz17_0 : w16.cell? ⟨gb334, 0, none⟩ = some (.string (⟨#[]⟩ : ByteArray)) := (blk_cell BK334.out 0).trans rfl; have hcz17_1 : w16.cell? ⟨gb334, 1, none⟩ = some (.slice none 0 0) := (blk_cell BK334.out 1).trans rfl; have hcz17_2 : w16.cell? ⟨gb334, 2, none⟩ = some (.slice none 0 0) := (blk_cell BK334.out 2).trans rfl; have hfz17_0 := blk_frozen BK334.out 0; have hfz17_1 := blk_frozen BK334.out 1; have hfz17_2 := blk_frozen BK334.out 2; obtain ⟨Ao18, co18, eo18⟩ := Kd.R_slice HO330.out; subst eo18; obtain ⟨Ao19, co19, eo19⟩ := Kd.R_slice HO333.out; subst eo19) | ((with_reducible refine gate_callee (f := 8) rfl ?_); refine goesL_ (some 37) rfl rfl Try.func8 (by kernel_rfl) rfl #[.slice A1 l1.length c1, .int .i64 0, .int .i64 4] rfl (by (try simp only [List.map_toArray, List.map_cons, List.map_nil]); first | done | rfl | (simp only [List.length_drop, List.length_take]; rfl)) ?_; (with_reducible refine (laws_r8At.calls _ _ l1 0 4 t335 _ ?side1 ?side2 A7.out).mono ?_); (case side1 => exact Kd.C_below HR1.out (by repeat (first | (with_reducible first | exact HB.out | apply below_alloc | apply pw_below_drewN | apply below_drew1 | refine below_set ?_ GE334.out) | exact HB.out))); (case side2 => exact HC1.out); rintro e w' ⟨rfl, ⟨nd, rfl⟩⟩; refine ⟨_, rfl, ?_⟩) | ((with_reducible refine gate_callee (f := 7) rfl ?_); refine goesL_ (some 41) rfl rfl Try.func7 (by kernel_rfl) rfl #[.agg #[.string t327, .slice Ao18 t328.length co18, .slice Ao19 t331.length co19]] rfl (by (try simp only [List.map_toArray, List.map_cons, List.map_nil]); first | done | rfl | (simp only [List.length_drop, List.length_take]; rfl)) ?_; (with_reducible refine (spec_BeatCount.calls k t327 _ _ t328 _ _ t331 t336 t337 _ ?side1 ?side2 ?side3 ?side4 A8.out).mono ?_); (case side1 => refine (Kd.R_reads' (e := 2) (base := w.heap.size) (ok := fun k_ => some k_ ≠ (.slice Ao19 t331.length co19 : Value).ownBlock) (n := t328.length) (c := co18) ?_).2.2; exact (by (with_reducible repeat (first | apply Kd.R_alloc | apply Kd.R_drewN | apply Kd.R_drew)); exact (Kd.R_mono (Kd.R_far (p := ⟨gb334, 2, none⟩) (Kd.R_far (p := ⟨gb334, 1, none⟩) (Kd.R_far (p := ⟨gb334, 0, none⟩) (Kd.R_types HO330.out BK334.out (by decide)) (fun _ hk => hk.2) (.string t327)) (fun _ hk => hk.2) (.slice Ao18 t328.length co18)) (fun _ hk => hk.2) (.slice Ao19 t331.length co19)) (fun _ h_ => h_.1)))); (case side2 => exact (Kd.R_reads' HO330.out).2.1); (case side3 => refine (Kd.R_reads' (e := 2) (base := w.heap.size) (ok := fun k_ => some k_ ≠ (.slice Ao18 t328.length co18 : Value).ownBlock) (n := t331.length) (c := co19) ?_).2.2; exact (by (with_reducible repeat (first | apply Kd.R_alloc | apply Kd.R_drewN | apply Kd.R_drew)); exact (Kd.R_mono (Kd.R_far (p := ⟨gb334, 2, none⟩) (Kd.R_far (p := ⟨gb334, 1, none⟩) (Kd.R_far (p := ⟨gb334, 0, none⟩) (Kd.R_types HO333.out BK334.out (by decide)) (fun _ hk => hk.2) (.string t327)) (fun _ hk => hk.2) (.slice Ao18 t328.length co18)) (fun _ hk => hk.2) (.slice Ao19 t331.length co19)) (fun _ h_ => h_.1)))); (case side4 => exact (Kd.R_reads' HO333.out).2.1); rintro e w20 ⟨rfl, hb⟩; refine ⟨_, rfl, ?_⟩; have n0_ := Aside0.mk (Kd.R_below (by (with_reducible repeat (first | apply Kd.R_alloc | apply Kd.R_drewN | apply Kd.R_drew)); exact (Kd.R_mono (Kd.R_far (p := ⟨gb334, 2, none⟩) (Kd.R_far (p := ⟨gb334, 1, none⟩) (Kd.R_far (p := ⟨gb334, 0, none⟩) (Kd.R_types HO326.out BK334.out (by decide)) (fun _ hk => hk.2) (.string t327)) (fun _ hk => hk.2) (.slice Ao18 t328.length co18)) (fun _ hk => hk.2) (.slice Ao19 t331.length co19)) (fun _ h_ => h_.1))) hb); have n1_ := Aside0.mk (Kd.R_below (by (with_reducible repeat (first | apply Kd.R_alloc | apply Kd.R_drewN | apply Kd.R_drew)); exact (Kd.R_mono (Kd.R_far (p := ⟨gb334, 2, none⟩) (Kd.R_far (p := ⟨gb334, 1, none⟩) (Kd.R_far (p := ⟨gb334, 0, none⟩) (Kd.R_types HO330.out BK334.out (by decide)) (fun _ hk => hk.2) (.string t327)) (fun _ hk => hk.2) (.slice Ao18 t328.length co18)) (fun _ hk => hk.2) (.slice Ao19 t331.length co19)) (fun _ h_ => h_.1))) hb); have n2_ := Aside0.mk (Kd.R_below (by (with_reducible repeat (first | apply Kd.R_alloc | apply Kd.R_drewN | apply Kd.R_drew)); exact (Kd.R_mono (Kd.R_far (p := ⟨gb334, 2, none⟩) (Kd.R_far (p := ⟨gb334, 1, none⟩) (Kd.R_far (p := ⟨gb334, 0, none⟩) (Kd.R_types HO333.out BK334.out (by decide)) (fun _ hk => hk.2) (.string t327)) (fun _ hk => hk.2) (.slice Ao18 t328.length co18)) (fun _ hk => hk.2) (.slice Ao19 t331.length co19)) (fun _ h_ => h_.1))) hb); have n3_ := Aside0.mk (blk_below (g := gb334) (o := .cells #[.string t327, .slice Ao18 t328.length co18, .slice Ao19 t331.length co19] 26 (0, 0)) (by (with_reducible repeat (first | refine blk_drewN ?_ _ | refine blk_drew ?_ | refine blk_alloc ?_ _)); refine blk_put (cs := #[.string t327, .slice Ao18 t328.length co18, .slice none 0 0]) ?_ 2 _ rfl; (with_reducible repeat (first | refine blk_drewN ?_ _ | refine blk_drew ?_ | refine blk_alloc ?_ _)); refine blk_put (cs := #[.string t327, .slice none 0 0, .slice none 0 0]) ?_ 1 _ rfl; (with_reducible repeat (first | refine blk_drewN ?_ _ | refine blk_drew ?_ | refine blk_alloc ?_ _)); refine blk_put (cs := #[.string (⟨#[]⟩ : ByteArray), .slice none 0 0, .slice none 0 0]) ?_ 0 _ rfl; (with_reducible repeat (first | refine blk_drewN ?_ _ | refine blk_drew ?_ | refine blk_alloc ?_ _)); exact BK334.out) hb); have n4_ := Aside0.mk (below_step (by repeat (first | (with_reducible first | exact HB.out | apply below_alloc | apply pw_below_drewN | apply below_drew1 | refine below_set ?_ GE334.out) | exact HB.out)) hb); clear HO326; clear HO330; clear HO333; clear BK334; clear HB; have HO326 := n0_; have HO330 := n1_; have HO333 := n2_; have BK334 := n3_; have HB := n4_; clear n0_ n1_ n2_ n3_ n4_; (try clear hb); (try clear hb2); (try clear hk); (try clear hi); have hcz21_0 : w20.cell? ⟨gb334, 0, none⟩ = some (.string t327) := (blk_cell BK334.out 0).trans rfl; have hcz21_1 : w20.cell? ⟨gb334, 1, none⟩ = some (.slice Ao18 t328.length co18) := (blk_cell BK334.out 1).trans rfl; have hcz21_2 : w20.cell? ⟨gb334, 2, none⟩ = some (.slice Ao19 t331.length co19) := (blk_cell BK334.out 2).trans rfl; have hfz21_0 := blk_frozen BK334.out 0; have hfz21_1 := blk_frozen BK334.out 1; have hfz21_2 := blk_frozen BK334.out 2; obtain ⟨Ao22, co22, eo22⟩ := Kd.R_slice HO326.out; subst eo22) | ((with_reducible refine gate_callee (f := 20) rfl ?_); refine goesL_ (some 51) rfl rfl Try.func20 (by kernel_rfl) rfl #[.slice Ao22 t324.length co22, .agg #[.string t327, .slice Ao18 t328.length co18, .slice Ao19 t331.length co19], .int .i64 (wrap64 (1 + t335))] rfl (by (try simp only [List.map_toArray, List.map_cons, List.map_nil]); first | done | rfl | (simp only [List.length_drop, List.length_take]; rfl)) ?_; (with_reducible refine (impl_CyclesOf.calls k _ _ t324 t327 _ _ t328 _ _ t331 (wrap64 (1 + t335)) t338 t339 t340 _ ?side1 ?side2 ?side3 ?side4 ?side5 ?side6 A9.out).mono ?_); (case side1 => repeat (first | exact (Kd.R_reads' HO326.out).2.2 | (with_reducible refine Kd.C_alloc ?_ _) | (with_reducible refine Kd.C_drewN ?_ _) | (with_reducible refine Kd.C_drew ?_))); (case side2 => exact (Kd.R_reads' HO326.out).2.1); (case side3 => repeat (first | exact (Kd.R_reads' HO330.out).2.2 | (with_reducible refine Kd.C_alloc ?_ _) | (with_reducible refine Kd.C_drewN ?_ _) | (with_reducible refine Kd.C_drew ?_))); (case side4 => exact (Kd.R_reads' HO330.out).2.1); (case side5 => repeat (first | exact (Kd.R_reads' HO333.out).2.2 | (with_reducible refine Kd.C_alloc ?_ _) | (with_reducible refine Kd.C_drewN ?_ _) | (with_reducible refine Kd.C_drew ?_))); (case side6 => exact (Kd.R_reads' HO333.out).2.1); rintro e w23 ⟨rfl, hb⟩; refine ⟨_, rfl, ?_⟩; have n0_ := Aside0.mk (Kd.R_below (by (with_reducible repeat (first | apply Kd.R_alloc | apply Kd.R_drewN | apply Kd.R_drew)); exact HO326.out) hb); have n1_ := Aside0.mk (Kd.R_below (by (with_reducible repeat (first | apply Kd.R_alloc | apply Kd.R_drewN | apply Kd.R_drew)); exact HO330.out) hb); have n2_ := Aside0.mk (Kd.R_below (by (with_reducible repeat (first | apply Kd.R_alloc | apply Kd.R_drewN | apply Kd.R_drew)); exact HO333.out) hb); have n3_ := Aside0.mk (blk_below (g := gb334) (o := .cells #[.string t327, .slice Ao18 t328.length co18, .slice Ao19 t331.length co19] 26 (0, 0)) (by (with_reducible repeat (first | refine blk_drewN ?_ _ | refine blk_drew ?_ | refine blk_alloc ?_ _)); exact BK334.out) hb); have n4_ := Aside0.mk (below_step (by repeat (first | (with_reducible first | exact HB.out | apply below_alloc | apply pw_below_drewN | apply below_drew1 | refine below_set ?_ GE334.out) | exact HB.out)) hb); clear HO326; clear HO330; clear HO333; clear BK334; clear HB; have HO326 := n0_; have HO330 := n1_; have HO333 := n2_; have BK334 := n3_; have HB := n4_; clear n0_ n1_ n2_ n3_ n4_; (try clear hb); (try clear hb2); (try clear hk); (try clear hi)) | ((with_reducible refine gate_callee (f := 21) rfl ?_); refine goesL_ (some 57) rfl rfl Try.func21 (by kernel_rfl) rfl #[.slice Ao22 t324.length co22] rfl (by (try simp only [List.map_toArray, List.map_cons, List.map_nil]); first | done | rfl | (simp only [List.length_drop, List.length_take]; rfl)) ?_; (with_reducible refine (spec_DurationOf.calls k _ _ t324 t341 t342 _ ?side1 ?side2 A10.out).mono ?_); (case side1 => repeat (first | exact (Kd.R_reads' HO326.out).2.2 | (with_reducible refine Kd.C_alloc ?_ _) | (with_reducible refine Kd.C_drewN ?_ _) | (with_reducible refine Kd.C_drew ?_))); (case side2 => exact (Kd.R_reads' HO326.out).2.1); rintro e w' ⟨rfl, ⟨nd, rfl⟩⟩; refine ⟨_, rfl, ?_⟩; have hcz24_0 : w23.cell? ⟨gb334, 0, none⟩ = some (.string t327) := (blk_cell BK334.out 0).trans rfl; have hcz24_1 : w23.cell? ⟨gb334, 1, none⟩ = some (.slice Ao18 t328.length co18) := (blk_cell BK334.out 1).trans rfl; have hcz24_2 : w23.cell? ⟨gb334, 2, none⟩ = some (.slice Ao19 t331.length co19) := (blk_cell BK334.out 2).trans rfl; have hfz24_0 := blk_frozen BK334.out 0; have hfz24_1 := blk_frozen BK334.out 1; have hfz24_2 := blk_frozen BK334.out 2) | ((with_reducible refine gate_callee (f := 22) rfl ?_); refine goesL_ (some 64) rfl rfl Try.func22 (by kernel_rfl) rfl #[.slice Ao22 t324.length co22, .agg #[.string t327, .slice Ao18 t328.length co18, .slice Ao19 t331.length co19], .int .i64 (wrap64 (1 + t335)), .int .i64 0] rfl (by (try simp only [List.map_toArray, List.map_cons, List.map_nil]); first | done | rfl | (simp only [List.length_drop, List.length_take]; rfl)) ?_; (with_reducible refine (impl_PadMelody.calls k _ _ t324 t327 _ _ t328 _ _ t331 (wrap64 (1 + t335)) 0 t343 t346 _ ?side1 ?side2 ?side3 ?side4 ?side5 ?side6 A11.out).mono ?_); (case side1 => repeat (first | exact (Kd.R_reads' HO326.out).2.2 | (with_reducible refine Kd.C_alloc ?_ _) | (with_reducible refine Kd.C_drewN ?_ _) | (with_reducible refine Kd.C_drew ?_))); (case side2 => exact (Kd.R_reads' HO326.out).2.1); (case side3 => repeat (first | exact (Kd.R_reads' HO330.out).2.2 | (with_reducible refine Kd.C_alloc ?_ _) | (with_reducible refine Kd.C_drewN ?_ _) | (with_reducible refine Kd.C_drew ?_))); (case side4 => exact (Kd.R_reads' HO330.out).2.1); (case side5 => repeat (first | exact (Kd.R_reads' HO333.out).2.2 | (with_reducible refine Kd.C_alloc ?_ _) | (with_reducible refine Kd.C_drewN ?_ _) | (with_reducible refine Kd.C_drew ?_))); (case side6 => exact (Kd.R_reads' HO333.out).2.1); rintro e w25 ⟨v344, rfl, ho0, hb⟩; refine ⟨_, rfl, ?_⟩; have n0_ := Aside0.mk (Kd.R_elder' (by (with_reducible repeat (first | apply Kd.R_alloc | apply Kd.R_drewN | apply Kd.R_drew)); exact HO326.out) (Kd.R_base ho0) hb); have n1_ := Aside0.mk (Kd.R_below (by (with_reducible repeat (first | apply Kd.R_alloc | apply Kd.R_drewN | apply Kd.R_drew)); exact HO330.out) hb); have n2_ := Aside0.mk (Kd.R_below (by (with_reducible repeat (first | apply Kd.R_alloc | apply Kd.R_drewN | apply Kd.R_drew)); exact HO333.out) hb); have n3_ := Aside0.mk (Kd.R_lower (Kd.R_new' ho0 (Kd.R_lt (by (with_reducible repeat (first | apply Kd.R_alloc | apply Kd.R_drewN | apply Kd.R_drew)); exact HO326.out))) (below_size (by repeat (first | (with_reducible first | exact HB.out | apply below_alloc | apply pw_below_drewN | apply below_drew1 | refine below_set ?_ GE334.out) | exact HB.out)))); have n4_ := Aside0.mk (blk_below (g := gb334) (o := .cells #[.string t327, .slice Ao18 t328.length co18, .slice Ao19 t331.length co19] 26 (0, 0)) (by (with_reducible repeat (first | refine blk_drewN ?_ _ | refine blk_drew ?_ | refine blk_alloc ?_ _)); exact BK334.out) hb); have n5_ := Aside0.mk (below_step (by repeat (first | (with_reducible first | exact HB.out | apply below_alloc | apply pw_below_drewN | apply below_drew1 | refine below_set ?_ GE334.out) | exact HB.out)) hb); clear HO326; clear HO330; clear HO333; clear BK334; clear HB; have HO326 := n0_; have HO330 := n1_; have HO333 := n2_; have HO345 := n3_; have BK334 := n4_; have HB := n5_; clear n0_ n1_ n2_ n3_ n4_ n5_; (try clear hb); (try clear hb2); (try clear hk); (try clear hi); (try clear ho0); have hcz26_0 : w25.cell? ⟨gb334, 0, none⟩ = some (.string t327) := (blk_cell BK334.out 0).trans rfl; have hcz26_1 : w25.cell? ⟨gb334, 1, none⟩ = some (.slice Ao18 t328.length co18) := (blk_cell BK334.out 1).trans rfl; have hcz26_2 : w25.cell? ⟨gb334, 2, none⟩ = some (.slice Ao19 t331.length co19) := (blk_cell BK334.out 2).trans rfl; have hfz26_0 := blk_frozen BK334.out 0; have hfz26_1 := blk_frozen BK334.out 1; have hfz26_2 := blk_frozen BK334.out 2) | ((with_reducible refine gate_callee (f := 23) rfl ?_); refine goesL_ (some 71) rfl rfl Try.func23 (by kernel_rfl) rfl #[.slice Ao22 t324.length co22, .agg #[.string t327, .slice Ao18 t328.length co18, .slice Ao19 t331.length co19], .int .i64 (wrap64 (1 + t335))] rfl (by (try simp only [List.map_toArray, List.map_cons, List.map_nil]); first | done | rfl | (simp only [List.length_drop, List.length_take]; rfl)) ?_; (with_reducible refine (impl_NotesAtSam.calls k _ _ t324 t327 _ _ t328 _ _ t331 (wrap64 (1 + t335)) t347 t350 _ ?side1 ?side2 ?side3 ?side4 ?side5 ?side6 A12.out).mono ?_); (case side1 => repeat (first | exact (Kd.R_reads' HO326.out).2.2 | (with_reducible refine Kd.C_alloc ?_ _) | (with_reducible refine Kd.C_drewN ?_ _) | (with_reducible refine Kd.C_drew ?_))); (case side2 => exact (Kd.R_reads' HO326.out).2.1); (case side3 => repeat (first | exact (Kd.R_reads' HO330.out).2.2 | (with_reducible refine Kd.C_alloc ?_ _) | (with_reducible refine Kd.C_drewN ?_ _) | (with_reducible refine Kd.C_drew ?_))); (case side4 => exact (Kd.R_reads' HO330.out).2.1); (case side5 => repeat (first | exact (Kd.R_reads' HO333.out).2.2 | (with_reducible refine Kd.C_alloc ?_ _) | (with_reducible refine Kd.C_drewN ?_ _) | (with_reducible refine Kd.C_drew ?_))); (case side6 => exact (Kd.R_reads' HO333.out).2.1); rintro e w27 ⟨v348, rfl, ho0, hb⟩; refine ⟨_, rfl, ?_⟩; have n0_ := Aside0.mk (Kd.R_below (by (with_reducible repeat (first | apply Kd.R_alloc | apply Kd.R_drewN | apply Kd.R_drew)); exact HO326.out) hb); have n1_ := Aside0.mk (Kd.R_elder' (by (with_reducible repeat (first | apply Kd.R_alloc | apply Kd.R_drewN | apply Kd.R_drew)); exact HO330.out) (Kd.R_base ho0) hb); have n2_ := Aside0.mk (Kd.R_elder' (by (with_reducible repeat (first | apply Kd.R_alloc | apply Kd.R_drewN | apply Kd.R_drew)); exact HO333.out) (Kd.R_base ho0) hb); have n3_ := Aside0.mk (Kd.R_below (by (with_reducible repeat (first | apply Kd.R_alloc | apply Kd.R_drewN | apply Kd.R_drew)); exact HO345.out) hb); have n4_ := Aside0.mk (Kd.R_lower (Kd.R_new' (Kd.R_new' ho0 (Kd.R_lt (by (with_reducible repeat (first | apply Kd.R_alloc | apply Kd.R_drewN | apply Kd.R_drew)); exact HO330.out))) (Kd.R_lt (by (with_reducible repeat (first | apply Kd.R_alloc | apply Kd.R_drewN | apply Kd.R_drew)); exact HO333.out))) (below_size (by repeat (first | (with_reducible first | exact HB.out | apply below_alloc | apply pw_below_drewN | apply below_drew1 | refine below_set ?_ GE334.out) | exact HB.out)))); have n5_ := Aside0.mk (blk_below (g := gb334) (o := .cells #[.string t327, .slice Ao18 t328.length co18, .slice Ao19 t331.length co19] 26 (0, 0)) (by (with_reducible repeat (first | refine blk_drewN ?_ _ | refine blk_drew ?_ | refine blk_alloc ?_ _)); exact BK334.out) hb); have n6_ := Aside0.mk (below_step (by repeat (first | (with_reducible first | exact HB.out | apply below_alloc | apply pw_below_drewN | apply below_drew1 | refine below_set ?_ GE334.out) | exact HB.out)) hb); clear HO326; clear HO330; clear HO333; clear HO345; clear BK334; clear HB; have HO326 := n0_; have HO330 := n1_; have HO333 := n2_; have HO345 := n3_; have HO349 := n4_; have BK334 := n5_; have HB := n6_; clear n0_ n1_ n2_ n3_ n4_ n5_ n6_; (try clear hb); (try clear hb2); (try clear hk); (try clear hi); (try clear ho0)))
    (try simp only [Act.put, List.setIfInBounds_toArray, List.set_cons_zero, List.set_cons_succ])
    go_cut [101] (fun v101 wc => ∃ (kq : Nat) (x101_12 : Bool), v101 = .bool x101_12 ∧ Aside0 (laws_FnBars.j0 kq t324 (wrap64 (1 + t335)) (wrap64 (t336 * (wrap64 (1 + t335)))) t341 t343 t347 x101_12 t327 t328 t331 = some r) ∧ Aside0 (kq ≤ k) ∧ Aside0 (Kd.R k51 51 wc w.heap.size (fun k_ => some k_ ≠ (v344 : Value).ownBlock) (.slice Ao22 t324.length co22) t324) ∧ Aside0 (Kd.R k51 51 wc w.heap.size (fun k_ => some k_ ≠ ((.slice Ao22 t324.length co22) : Value).ownBlock) v344 t343) ∧ Aside0 (Kd.R (Kd.int .i64) 2 wc w.heap.size (fun k_ => some k_ ≠ ((.slice Ao18 t328.length co18) : Value).ownBlock ∧ some k_ ≠ ((.slice Ao19 t331.length co19) : Value).ownBlock) v348 t347) ∧ Aside0 (Kd.R (Kd.int .i64) 2 wc w.heap.size (fun k_ => some k_ ≠ (v348 : Value).ownBlock ∧ some k_ ≠ ((.slice Ao19 t331.length co19) : Value).ownBlock) (.slice Ao18 t328.length co18) t328) ∧ Aside0 (Kd.R (Kd.int .i64) 2 wc w.heap.size (fun k_ => some k_ ≠ (v348 : Value).ownBlock ∧ some k_ ≠ ((.slice Ao18 t328.length co18) : Value).ownBlock) (.slice Ao19 t331.length co19) t331) ∧ Aside0 (wc.heap[gb334]? = some (.cells #[.string t327, (.slice Ao18 t328.length co18), (.slice Ao19 t331.length co19)] 26 (0, 0))) ∧ Aside0 (Below w.heap.size w wc))
    case first => as_aux_lemma =>
      have H := HC13.out
      clear HC13
      by_cases c28 : t340 = 0
      · rw [if_pos c28] at H
        have c28b0 : (t340 == 0) = true := beq_iff_eq.mpr c28
        have c28b1 : (t340 != 0) = false := bne_eq_false_iff_eq.mpr c28
        clear c28
        (first | rw [c28b0] | (simp only [i64_w, i32_w]; rw [c28b0]) | skip)
        by_cases c29 : t339 < 0
        · rw [if_pos c29] at H
          have c29b0 : decide (t339 < 0) = true := decide_eq_true c29
          clear c29
          have H' := Aside0.mk H
          clear H
          go_wp2
          go_meet
          case rel => exact ⟨_, (true), (by first | rfl | (simp; done) | (simp [*]; done)), H', ⟨by first | omega | exact Nat.le_refl _⟩, ⟨by (with_reducible repeat (first | apply Kd.R_alloc | apply Kd.R_drewN | apply Kd.R_drew)); exact Kd.R_mono HO326.out (fun _ hk => hk.2)⟩, ⟨by (with_reducible repeat (first | apply Kd.R_alloc | apply Kd.R_drewN | apply Kd.R_drew)); exact Kd.R_mono HO345.out (fun _ hk => hk.2)⟩, ⟨by (with_reducible repeat (first | apply Kd.R_alloc | apply Kd.R_drewN | apply Kd.R_drew)); exact Kd.R_mono HO349.out (fun _ hk => ⟨hk.1.2, hk.2⟩)⟩, ⟨by (with_reducible repeat (first | apply Kd.R_alloc | apply Kd.R_drewN | apply Kd.R_drew)); exact Kd.R_mono HO330.out (fun _ hk => ⟨hk.2, hk.1⟩)⟩, ⟨by (with_reducible repeat (first | apply Kd.R_alloc | apply Kd.R_drewN | apply Kd.R_drew)); exact Kd.R_mono HO333.out (fun _ hk => ⟨hk.2, hk.1⟩)⟩, ⟨by (with_reducible repeat (first | refine blk_drewN ?_ _ | refine blk_drew ?_ | refine blk_alloc ?_ _)); exact BK334.out⟩, ⟨by repeat (first | (with_reducible first | exact HB.out | apply below_alloc | apply pw_below_drewN | apply below_drew1 | refine below_set ?_ GE334.out) | exact HB.out)⟩⟩
        · rw [if_neg c29] at H
          have c29b0 : decide (t339 < 0) = false := decide_eq_false c29
          clear c29
          by_cases c30 : t339 ≥ (wrap64 (t336 * (wrap64 (1 + t335))))
          · rw [if_pos c30] at H
            have c30b0 : decide ((wrap64 (t336 * (wrap64 (1 + t335)))) ≤ t339) = true := decide_eq_true c30
            clear c30
            have H' := Aside0.mk H
            clear H
            go_wp2
            go_meet
            case rel => exact ⟨_, (true), (by first | rfl | (simp; done) | (simp [*]; done)), H', ⟨by first | omega | exact Nat.le_refl _⟩, ⟨by (with_reducible repeat (first | apply Kd.R_alloc | apply Kd.R_drewN | apply Kd.R_drew)); exact Kd.R_mono HO326.out (fun _ hk => hk.2)⟩, ⟨by (with_reducible repeat (first | apply Kd.R_alloc | apply Kd.R_drewN | apply Kd.R_drew)); exact Kd.R_mono HO345.out (fun _ hk => hk.2)⟩, ⟨by (with_reducible repeat (first | apply Kd.R_alloc | apply Kd.R_drewN | apply Kd.R_drew)); exact Kd.R_mono HO349.out (fun _ hk => ⟨hk.1.2, hk.2⟩)⟩, ⟨by (with_reducible repeat (first | apply Kd.R_alloc | apply Kd.R_drewN | apply Kd.R_drew)); exact Kd.R_mono HO330.out (fun _ hk => ⟨hk.2, hk.1⟩)⟩, ⟨by (with_reducible repeat (first | apply Kd.R_alloc | apply Kd.R_drewN | apply Kd.R_drew)); exact Kd.R_mono HO333.out (fun _ hk => ⟨hk.2, hk.1⟩)⟩, ⟨by (with_reducible repeat (first | refine blk_drewN ?_ _ | refine blk_drew ?_ | refine blk_alloc ?_ _)); exact BK334.out⟩, ⟨by repeat (first | (with_reducible first | exact HB.out | apply below_alloc | apply pw_below_drewN | apply below_drew1 | refine below_set ?_ GE334.out) | exact HB.out)⟩⟩
          · rw [if_neg c30] at H
            have c30b0 : decide ((wrap64 (t336 * (wrap64 (1 + t335)))) ≤ t339) = false := decide_eq_false c30
            clear c30
            by_cases c31 : (wrap64 ((wrap64 (t338 * (wrap64 (t336 * (wrap64 (1 + t335)))))) + t339)) = t341
            · rw [if_pos c31] at H
              have c31b0 : ((wrap64 ((wrap64 (t338 * (wrap64 (t336 * (wrap64 (1 + t335)))))) + t339)) == t341) = true := beq_iff_eq.mpr c31
              have c31b1 : ((wrap64 ((wrap64 (t338 * (wrap64 (t336 * (wrap64 (1 + t335)))))) + t339)) != t341) = false := bne_eq_false_iff_eq.mpr c31
              clear c31
              by_cases c32 : t346 = 0
              · rw [if_pos c32] at H
                have c32b0 : (t346 == 0) = true := beq_iff_eq.mpr c32
                have c32b1 : (t346 != 0) = false := bne_eq_false_iff_eq.mpr c32
                clear c32
                have H' := Aside0.mk H
                clear H
                go_wp2
                go_meet
                case rel => exact ⟨_, ((t350 != 0)), (by first | rfl | (simp; done) | (simp [*]; done)), H', ⟨by first | omega | exact Nat.le_refl _⟩, ⟨by (with_reducible repeat (first | apply Kd.R_alloc | apply Kd.R_drewN | apply Kd.R_drew)); exact Kd.R_mono HO326.out (fun _ hk => hk.2)⟩, ⟨by (with_reducible repeat (first | apply Kd.R_alloc | apply Kd.R_drewN | apply Kd.R_drew)); exact Kd.R_mono HO345.out (fun _ hk => hk.2)⟩, ⟨by (with_reducible repeat (first | apply Kd.R_alloc | apply Kd.R_drewN | apply Kd.R_drew)); exact Kd.R_mono HO349.out (fun _ hk => ⟨hk.1.2, hk.2⟩)⟩, ⟨by (with_reducible repeat (first | apply Kd.R_alloc | apply Kd.R_drewN | apply Kd.R_drew)); exact Kd.R_mono HO330.out (fun _ hk => ⟨hk.2, hk.1⟩)⟩, ⟨by (with_reducible repeat (first | apply Kd.R_alloc | apply Kd.R_drewN | apply Kd.R_drew)); exact Kd.R_mono HO333.out (fun _ hk => ⟨hk.2, hk.1⟩)⟩, ⟨by (with_reducible repeat (first | refine blk_drewN ?_ _ | refine blk_drew ?_ | refine blk_alloc ?_ _)); exact BK334.out⟩, ⟨by repeat (first | (with_reducible first | exact HB.out | apply below_alloc | apply pw_below_drewN | apply below_drew1 | refine below_set ?_ GE334.out) | exact HB.out)⟩⟩
              · rw [if_neg c32] at H
                have c32b0 : (t346 == 0) = false := beq_eq_false_iff_ne.mpr c32
                have c32b1 : (t346 != 0) = true := bne_iff_ne.mpr c32
                have H' := Aside0.mk H
                clear H
                go_wp2
                go_meet
                case rel => exact ⟨_, (true), (by first | rfl | (simp; done) | (simp [*]; done)), H', ⟨by first | omega | exact Nat.le_refl _⟩, ⟨by (with_reducible repeat (first | apply Kd.R_alloc | apply Kd.R_drewN | apply Kd.R_drew)); exact Kd.R_mono HO326.out (fun _ hk => hk.2)⟩, ⟨by (with_reducible repeat (first | apply Kd.R_alloc | apply Kd.R_drewN | apply Kd.R_drew)); exact Kd.R_mono HO345.out (fun _ hk => hk.2)⟩, ⟨by (with_reducible repeat (first | apply Kd.R_alloc | apply Kd.R_drewN | apply Kd.R_drew)); exact Kd.R_mono HO349.out (fun _ hk => ⟨hk.1.2, hk.2⟩)⟩, ⟨by (with_reducible repeat (first | apply Kd.R_alloc | apply Kd.R_drewN | apply Kd.R_drew)); exact Kd.R_mono HO330.out (fun _ hk => ⟨hk.2, hk.1⟩)⟩, ⟨by (with_reducible repeat (first | apply Kd.R_alloc | apply Kd.R_drewN | apply Kd.R_drew)); exact Kd.R_mono HO333.out (fun _ hk => ⟨hk.2, hk.1⟩)⟩, ⟨by (with_reducible repeat (first | refine blk_drewN ?_ _ | refine blk_drew ?_ | refine blk_alloc ?_ _)); exact BK334.out⟩, ⟨by repeat (first | (with_reducible first | exact HB.out | apply below_alloc | apply pw_below_drewN | apply below_drew1 | refine below_set ?_ GE334.out) | exact HB.out)⟩⟩
            · rw [if_neg c31] at H
              have c31b0 : ((wrap64 ((wrap64 (t338 * (wrap64 (t336 * (wrap64 (1 + t335)))))) + t339)) == t341) = false := beq_eq_false_iff_ne.mpr c31
              have c31b1 : ((wrap64 ((wrap64 (t338 * (wrap64 (t336 * (wrap64 (1 + t335)))))) + t339)) != t341) = true := bne_iff_ne.mpr c31
              have H' := Aside0.mk H
              clear H
              go_wp2
              go_meet
              case rel => exact ⟨_, (true), (by first | rfl | (simp; done) | (simp [*]; done)), H', ⟨by first | omega | exact Nat.le_refl _⟩, ⟨by (with_reducible repeat (first | apply Kd.R_alloc | apply Kd.R_drewN | apply Kd.R_drew)); exact Kd.R_mono HO326.out (fun _ hk => hk.2)⟩, ⟨by (with_reducible repeat (first | apply Kd.R_alloc | apply Kd.R_drewN | apply Kd.R_drew)); exact Kd.R_mono HO345.out (fun _ hk => hk.2)⟩, ⟨by (with_reducible repeat (first | apply Kd.R_alloc | apply Kd.R_drewN | apply Kd.R_drew)); exact Kd.R_mono HO349.out (fun _ hk => ⟨hk.1.2, hk.2⟩)⟩, ⟨by (with_reducible repeat (first | apply Kd.R_alloc | apply Kd.R_drewN | apply Kd.R_drew)); exact Kd.R_mono HO330.out (fun _ hk => ⟨hk.2, hk.1⟩)⟩, ⟨by (with_reducible repeat (first | apply Kd.R_alloc | apply Kd.R_drewN | apply Kd.R_drew)); exact Kd.R_mono HO333.out (fun _ hk => ⟨hk.2, hk.1⟩)⟩, ⟨by (with_reducible repeat (first | refine blk_drewN ?_ _ | refine blk_drew ?_ | refine blk_alloc ?_ _)); exact BK334.out⟩, ⟨by repeat (first | (with_reducible first | exact HB.out | apply below_alloc | apply pw_below_drewN | apply below_drew1 | refine below_set ?_ GE334.out) | exact HB.out)⟩⟩
      · rw [if_neg c28] at H
        have c28b0 : (t340 == 0) = false := beq_eq_false_iff_ne.mpr c28
        have c28b1 : (t340 != 0) = true := bne_iff_ne.mpr c28
        (first | rw [c28b0] | (simp only [i64_w, i32_w]; rw [c28b0]) | skip)
        have H' := Aside0.mk H
        clear H
        go_wp2
        go_meet
        case rel => exact ⟨_, (true), (by first | rfl | (simp; done) | (simp [*]; done)), H', ⟨by first | omega | exact Nat.le_refl _⟩, ⟨by (with_reducible repeat (first | apply Kd.R_alloc | apply Kd.R_drewN | apply Kd.R_drew)); exact Kd.R_mono HO326.out (fun _ hk => hk.2)⟩, ⟨by (with_reducible repeat (first | apply Kd.R_alloc | apply Kd.R_drewN | apply Kd.R_drew)); exact Kd.R_mono HO345.out (fun _ hk => hk.2)⟩, ⟨by (with_reducible repeat (first | apply Kd.R_alloc | apply Kd.R_drewN | apply Kd.R_drew)); exact Kd.R_mono HO349.out (fun _ hk => ⟨hk.1.2, hk.2⟩)⟩, ⟨by (with_reducible repeat (first | apply Kd.R_alloc | apply Kd.R_drewN | apply Kd.R_drew)); exact Kd.R_mono HO330.out (fun _ hk => ⟨hk.2, hk.1⟩)⟩, ⟨by (with_reducible repeat (first | apply Kd.R_alloc | apply Kd.R_drewN | apply Kd.R_drew)); exact Kd.R_mono HO333.out (fun _ hk => ⟨hk.2, hk.1⟩)⟩, ⟨by (with_reducible repeat (first | refine blk_drewN ?_ _ | refine blk_drew ?_ | refine blk_alloc ?_ _)); exact BK334.out⟩, ⟨by repeat (first | (with_reducible first | exact HB.out | apply below_alloc | apply pw_below_drewN | apply below_drew1 | refine below_set ?_ GE334.out) | exact HB.out)⟩⟩
    case rest => as_aux_lemma =>
      clear HC13
      try clear c1
      try clear c2
      try clear p2
      try clear c3
      try clear c4
      try clear c5
      try clear c6
      try clear p6
      try clear c7
      try clear c8
      try clear c19
      try clear c20
      try clear c21
      try clear c22
      try clear c23
      try clear c28
      try clear c28b0
      try clear c28b1
      try clear c29
      try clear c29b0
      try clear c30
      try clear c30b0
      try clear c31
      try clear c31b0
      try clear c31b1
      try clear c32
      try clear c32b0
      try clear c32b1
      try clear hcz17_0
      try clear hcz17_1
      try clear hcz17_2
      try clear hcz21_0
      try clear hcz21_1
      try clear hcz21_2
      try clear hcz24_0
      try clear hcz24_1
      try clear hcz24_2
      try clear hcz26_0
      try clear hcz26_1
      try clear hcz26_2
      try clear hfz17_0
      try clear hfz17_1
      try clear hfz17_2
      try clear hfz21_0
      try clear hfz21_1
      try clear hfz21_2
      try clear hfz24_0
      try clear hfz24_1
      try clear hfz24_2
      try clear hfz26_0
      try clear hfz26_1
      try clear hfz26_2
      obtain ⟨kq, x101_12, rfl, HA, HJ12, HO_5, HO_16, HO_18, HO_335001, HO_335002, BK334, HB⟩ := hcut
      cases kq with
      | zero => exact absurd HA.out (by simp [laws_FnBars.j0])
      | succ kj12 =>
        have H := HA.out
        clear HA
        simp only [laws_FnBars.j0] at H
        by_cases c33 : x101_12 = true
        · subst c33
          have H1 : (some false) = some r := by rw [if_pos rfl] at H; exact H
          clear H
          have H := H1
          clear H1
          obtain rfl := Option.some.inj H
          go_wp2
          go_ret
          exact ⟨by first | rfl | (simp [errW_none, errW_some] <;> rfl) | (simp [*, errW_none, errW_some] <;> rfl), by repeat (first | (with_reducible first | exact HB.out | apply below_alloc | apply pw_below_drewN | apply below_drew1 | refine below_set ?_ GE334.out) | exact HB.out)⟩
        · replace c33 := Bool.eq_false_iff.mpr c33
          subst c33
          have H1 : ((spec_DurationOf.f kj12 t343).bind fun bt351 => (if bt351.2 = 0 then (if bt351.1 < t341 then (laws_FnBars.j1 kj12 t324 (wrap64 (1 + t335)) (wrap64 (t336 * (wrap64 (1 + t335)))) t347 true t327 t328 t331) else (if (wrap64 (bt351.1 - t341)) ≥ (wrap64 (t336 * (wrap64 (1 + t335)))) then (laws_FnBars.j1 kj12 t324 (wrap64 (1 + t335)) (wrap64 (t336 * (wrap64 (1 + t335)))) t347 true t327 t328 t331) else (if (wrap64 (t336 * (wrap64 (1 + t335)))) = 0 then (none) else (if (Int.tmod bt351.1 (wrap64 (t336 * (wrap64 (1 + t335))))) = 0 then (if (t343.length : Int) < (t324.length : Int) then (laws_FnBars.j1 kj12 t324 (wrap64 (1 + t335)) (wrap64 (t336 * (wrap64 (1 + t335)))) t347 true t327 t328 t331) else (if 0 ≤ (t324.length : Int) then (if (t324.length : Int) ≤ (t343.length : Int) then ((spec_SameMelody.f kj12 (t343.take ((t324.length : Int) : Int).toNat) t324).bind fun t357 => (laws_FnBars.j1 kj12 t324 (wrap64 (1 + t335)) (wrap64 (t336 * (wrap64 (1 + t335)))) t347 (!t357) t327 t328 t331)) else (none)) else (none))) else (laws_FnBars.j1 kj12 t324 (wrap64 (1 + t335)) (wrap64 (t336 * (wrap64 (1 + t335)))) t347 true t327 t328 t331))))) else (laws_FnBars.j1 kj12 t324 (wrap64 (1 + t335)) (wrap64 (t336 * (wrap64 (1 + t335)))) t347 true t327 t328 t331))) = some r := by rw [if_neg (show ¬ (false = true) by decide)] at H; exact H
          clear H
          have H := H1
          clear H1
          replace H := Option.bind_eq_some_iff.mp H
          obtain ⟨⟨t351, t352⟩, A340, H⟩ := H
          replace H : (if t352 = 0 then (if t351 < t341 then (laws_FnBars.j1 kj12 t324 (wrap64 (1 + t335)) (wrap64 (t336 * (wrap64 (1 + t335)))) t347 true t327 t328 t331) else (if (wrap64 (t351 - t341)) ≥ (wrap64 (t336 * (wrap64 (1 + t335)))) then (laws_FnBars.j1 kj12 t324 (wrap64 (1 + t335)) (wrap64 (t336 * (wrap64 (1 + t335)))) t347 true t327 t328 t331) else (if (wrap64 (t336 * (wrap64 (1 + t335)))) = 0 then (none) else (if (Int.tmod t351 (wrap64 (t336 * (wrap64 (1 + t335))))) = 0 then (if (t343.length : Int) < (t324.length : Int) then (laws_FnBars.j1 kj12 t324 (wrap64 (1 + t335)) (wrap64 (t336 * (wrap64 (1 + t335)))) t347 true t327 t328 t331) else (if 0 ≤ (t324.length : Int) then (if (t324.length : Int) ≤ (t343.length : Int) then ((spec_SameMelody.f kj12 (t343.take ((t324.length : Int) : Int).toNat) t324).bind fun t357 => (laws_FnBars.j1 kj12 t324 (wrap64 (1 + t335)) (wrap64 (t336 * (wrap64 (1 + t335)))) t347 (!t357) t327 t328 t331)) else (none)) else (none))) else (laws_FnBars.j1 kj12 t324 (wrap64 (1 + t335)) (wrap64 (t336 * (wrap64 (1 + t335)))) t347 true t327 t328 t331))))) else (laws_FnBars.j1 kj12 t324 (wrap64 (1 + t335)) (wrap64 (t336 * (wrap64 (1 + t335)))) t347 true t327 t328 t331)) = some r := H
          have A34 := Aside0.mk A340
          clear A340
          have HC35 := Aside0.mk H
          clear H
          obtain ⟨Ao36, co36, eo36⟩ := Kd.R_slice HO_16.out
          subst eo36
          go_upto_region 15 with (first | ((with_reducible refine gate_callee (f := 21) rfl ?_); refine goesL_ (some 104) rfl rfl Try.func21 (by kernel_rfl) rfl #[.slice Ao36 t343.length co36] rfl (by (try simp only [List.map_toArray, List.map_cons, List.map_nil]); first | done | rfl | (simp only [List.length_drop, List.length_take]; rfl)) ?_; (with_reducible refine (spec_DurationOf.calls kj12 _ _ t343 t351 t352 _ ?side1 ?side2 A34.out).mono ?_); (case side1 => repeat (first | exact (Kd.R_reads' HO_16.out).2.2 | (with_reducible refine Kd.C_alloc ?_ _) | (with_reducible refine Kd.C_drewN ?_ _) | (with_reducible refine Kd.C_drew ?_))); (case side2 => exact (Kd.R_reads' HO_16.out).2.1); rintro e w' ⟨rfl, ⟨nd, rfl⟩⟩; refine ⟨_, rfl, ?_⟩))
          (try simp only [Act.put, List.setIfInBounds_toArray, List.set_cons_zero, List.set_cons_succ])
          go_cut [142] (fun v142 wc => ∃ (kq : Nat) (x142_34 : Bool), v142 = .bool x142_34 ∧ Aside0 (laws_FnBars.j1 kq t324 (wrap64 (1 + t335)) (wrap64 (t336 * (wrap64 (1 + t335)))) t347 x142_34 t327 t328 t331 = some r) ∧ Aside0 (kq ≤ kj12) ∧ Aside0 (Kd.R k51 51 wc w.heap.size (fun _ => True) (.slice Ao22 t324.length co22) t324) ∧ Aside0 (Kd.R (Kd.int .i64) 2 wc w.heap.size (fun k_ => some k_ ≠ ((.slice Ao18 t328.length co18) : Value).ownBlock ∧ some k_ ≠ ((.slice Ao19 t331.length co19) : Value).ownBlock) v348 t347) ∧ Aside0 (Kd.R (Kd.int .i64) 2 wc w.heap.size (fun k_ => some k_ ≠ (v348 : Value).ownBlock ∧ some k_ ≠ ((.slice Ao19 t331.length co19) : Value).ownBlock) (.slice Ao18 t328.length co18) t328) ∧ Aside0 (Kd.R (Kd.int .i64) 2 wc w.heap.size (fun k_ => some k_ ≠ (v348 : Value).ownBlock ∧ some k_ ≠ ((.slice Ao18 t328.length co18) : Value).ownBlock) (.slice Ao19 t331.length co19) t331) ∧ Aside0 (wc.heap[gb334]? = some (.cells #[.string t327, (.slice Ao18 t328.length co18), (.slice Ao19 t331.length co19)] 26 (0, 0))) ∧ Aside0 (Below w.heap.size w wc))
          case first => as_aux_lemma =>
            have H := HC35.out
            clear HC35
            by_cases c37 : t352 = 0
            · rw [if_pos c37] at H
              have c37b0 : (t352 == 0) = true := beq_iff_eq.mpr c37
              have c37b1 : (t352 != 0) = false := bne_eq_false_iff_eq.mpr c37
              clear c37
              (first | rw [c37b0] | (simp only [i64_w, i32_w]; rw [c37b0]) | skip)
              by_cases c38 : t351 < t341
              · rw [if_pos c38] at H
                have c38b0 : decide (t351 < t341) = true := decide_eq_true c38
                clear c38
                have H' := Aside0.mk H
                clear H
                go_wp2
                go_meet
                case rel => exact ⟨_, (true), (by first | rfl | (simp; done) | (simp [*]; done)), H', ⟨by have := HJ12.out; first | omega | exact Nat.le_refl _⟩, ⟨by (with_reducible repeat (first | apply Kd.R_alloc | apply Kd.R_drewN | apply Kd.R_drew)); exact Kd.R_mono HO_5.out (fun _ hk => trivial)⟩, ⟨by (with_reducible repeat (first | apply Kd.R_alloc | apply Kd.R_drewN | apply Kd.R_drew)); exact HO_18.out⟩, ⟨by (with_reducible repeat (first | apply Kd.R_alloc | apply Kd.R_drewN | apply Kd.R_drew)); exact HO_335001.out⟩, ⟨by (with_reducible repeat (first | apply Kd.R_alloc | apply Kd.R_drewN | apply Kd.R_drew)); exact HO_335002.out⟩, ⟨by (with_reducible repeat (first | refine blk_drewN ?_ _ | refine blk_drew ?_ | refine blk_alloc ?_ _)); exact BK334.out⟩, ⟨by repeat (first | (with_reducible first | exact HB.out | apply below_alloc | apply pw_below_drewN | apply below_drew1 | refine below_set ?_ GE334.out) | exact HB.out)⟩⟩
              · rw [if_neg c38] at H
                have c38b0 : decide (t351 < t341) = false := decide_eq_false c38
                clear c38
                by_cases c39 : (wrap64 (t351 - t341)) ≥ (wrap64 (t336 * (wrap64 (1 + t335))))
                · rw [if_pos c39] at H
                  have c39b0 : decide ((wrap64 (t336 * (wrap64 (1 + t335)))) ≤ (wrap64 (t351 - t341))) = true := decide_eq_true c39
                  clear c39
                  have H' := Aside0.mk H
                  clear H
                  go_wp2
                  go_meet
                  case rel => exact ⟨_, (true), (by first | rfl | (simp; done) | (simp [*]; done)), H', ⟨by have := HJ12.out; first | omega | exact Nat.le_refl _⟩, ⟨by (with_reducible repeat (first | apply Kd.R_alloc | apply Kd.R_drewN | apply Kd.R_drew)); exact Kd.R_mono HO_5.out (fun _ hk => trivial)⟩, ⟨by (with_reducible repeat (first | apply Kd.R_alloc | apply Kd.R_drewN | apply Kd.R_drew)); exact HO_18.out⟩, ⟨by (with_reducible repeat (first | apply Kd.R_alloc | apply Kd.R_drewN | apply Kd.R_drew)); exact HO_335001.out⟩, ⟨by (with_reducible repeat (first | apply Kd.R_alloc | apply Kd.R_drewN | apply Kd.R_drew)); exact HO_335002.out⟩, ⟨by (with_reducible repeat (first | refine blk_drewN ?_ _ | refine blk_drew ?_ | refine blk_alloc ?_ _)); exact BK334.out⟩, ⟨by repeat (first | (with_reducible first | exact HB.out | apply below_alloc | apply pw_below_drewN | apply below_drew1 | refine below_set ?_ GE334.out) | exact HB.out)⟩⟩
                · rw [if_neg c39] at H
                  have c39b0 : decide ((wrap64 (t336 * (wrap64 (1 + t335)))) ≤ (wrap64 (t351 - t341))) = false := decide_eq_false c39
                  clear c39
                  by_cases c40 : (wrap64 (t336 * (wrap64 (1 + t335)))) = 0
                  · rw [if_pos c40] at H
                    exact absurd H (by simp)
                  · rw [if_neg c40] at H
                    have c40b0 : ((wrap64 (t336 * (wrap64 (1 + t335)))) == 0) = false := beq_eq_false_iff_ne.mpr c40
                    have c40b1 : ((wrap64 (t336 * (wrap64 (1 + t335)))) != 0) = true := bne_iff_ne.mpr c40
                    by_cases c41 : (Int.tmod t351 (wrap64 (t336 * (wrap64 (1 + t335))))) = 0
                    · rw [if_pos c41] at H
                      have c41b0 : ((Int.tmod t351 (wrap64 (t336 * (wrap64 (1 + t335))))) == 0) = true := beq_iff_eq.mpr c41
                      have c41b1 : ((Int.tmod t351 (wrap64 (t336 * (wrap64 (1 + t335))))) != 0) = false := bne_eq_false_iff_eq.mpr c41
                      clear c41
                      by_cases c42 : (t343.length : Int) < (t324.length : Int)
                      · rw [if_pos c42] at H
                        have c42b0 : decide ((t343.length : Int) < (t324.length : Int)) = true := decide_eq_true c42
                        have c42b1 : decide (t343.length < t324.length) = true := decide_eq_true (Int.ofNat_lt.mp c42)
                        clear c42
                        have H' := Aside0.mk H
                        clear H
                        go_wp2
                        go_meet
                        case rel => exact ⟨_, (true), (by first | rfl | (simp; done) | (simp [*]; done)), H', ⟨by have := HJ12.out; first | omega | exact Nat.le_refl _⟩, ⟨by (with_reducible repeat (first | apply Kd.R_alloc | apply Kd.R_drewN | apply Kd.R_drew)); exact Kd.R_mono HO_5.out (fun _ hk => trivial)⟩, ⟨by (with_reducible repeat (first | apply Kd.R_alloc | apply Kd.R_drewN | apply Kd.R_drew)); exact HO_18.out⟩, ⟨by (with_reducible repeat (first | apply Kd.R_alloc | apply Kd.R_drewN | apply Kd.R_drew)); exact HO_335001.out⟩, ⟨by (with_reducible repeat (first | apply Kd.R_alloc | apply Kd.R_drewN | apply Kd.R_drew)); exact HO_335002.out⟩, ⟨by (with_reducible repeat (first | refine blk_drewN ?_ _ | refine blk_drew ?_ | refine blk_alloc ?_ _)); exact BK334.out⟩, ⟨by repeat (first | (with_reducible first | exact HB.out | apply below_alloc | apply pw_below_drewN | apply below_drew1 | refine below_set ?_ GE334.out) | exact HB.out)⟩⟩
                      · rw [if_neg c42] at H
                        have c42b0 : decide ((t343.length : Int) < (t324.length : Int)) = false := decide_eq_false c42
                        have c42b1 : decide (t343.length < t324.length) = false := decide_eq_false (fun h => c42 (Int.ofNat_lt.mpr h))
                        clear c42
                        by_cases c43 : 0 ≤ (t324.length : Int)
                        · rw [if_pos c43] at H
                          have c43b0 := eq_true c43
                          have c43b1 : decide (0 ≤ (t324.length : Int)) = true := decide_eq_true c43
                          clear c43
                          by_cases c44 : (t324.length : Int) ≤ (t343.length : Int)
                          · rw [if_pos c44] at H
                            have c44b0 := eq_true c44
                            have c44b1 : decide ((t324.length : Int) ≤ (t343.length : Int)) = true := decide_eq_true c44
                            clear c44
                            obtain ⟨y353, hy353⟩ : ∃ y_ : List (S51), y_ = (t343.take ((t324.length : Int) : Int).toNat) := ⟨_, rfl⟩
                            replace H : ((spec_SameMelody.f kj12 y353 t324).bind fun t357 => (laws_FnBars.j1 kj12 t324 (wrap64 (1 + t335)) (wrap64 (t336 * (wrap64 (1 + t335)))) t347 (!t357) t327 t328 t331)) = some r := by first | (rw [hy353]; with_reducible exact H) | (have H2_ := (Option.bind_some _ _).symm.trans H; rw [hy353]; with_reducible exact H2_) | (have H2_ := (Option.bind_some _ _).symm.trans H; with_reducible exact H2_) | with_reducible exact H | (rw [hy353]; exact H) | exact H
                            have Ny353 := Aside0.mk hy353
                            clear hy353
                            replace H := Option.bind_eq_some_iff.mp H
                            obtain ⟨t357, A450, H⟩ := H
                            replace H : (laws_FnBars.j1 kj12 t324 (wrap64 (1 + t335)) (wrap64 (t336 * (wrap64 (1 + t335)))) t347 (!t357) t327 t328 t331) = some r := H
                            have A45 := Aside0.mk A450
                            clear A450
                            have H' := Aside0.mk H
                            clear H
                            have q46 : ((t324.length : Int) : Int) ≤ ((t343.length : Int) : Int) := of_decide_eq_true (by first | (with_reducible assumption) | assumption)
                            obtain ⟨i046, hi046, _, hsz46, _⟩ := info_parts info51
                            have hroom46 : t343.length ≤ co36 := (Kd.R_reads' HO_16.out).2.1
                            have hC46 : Kd.C k51 _ Ao36 t343.length t343 := (Kd.R_reads' HO_16.out).2.2
                            have hcut46 := cut_to (P := Try.prog) 40 51 .i64 Try.underlying40 hi046 Ao36 t343.length co36 (t324.length : Int) (of_decide_eq_true (by first | (with_reducible assumption) | assumption)) q46 hroom46
                            have hr46 := Kd.C_take (m := ((t324.length : Int) : Int).toNat) hC46 (by omega)
                            have hy46 : y353.length = ((t324.length : Int) : Int).toNat := (by rw [Ny353.out, List.length_take]; omega)
                            rw [← Ny353.out] at hr46
                            rw [← hy46] at hcut46
                            have HR356 := Aside0.mk hr46
                            have HC356 := Aside0.mk (show y353.length ≤ co36 from by omega)
                            clear hr46 hC46 hroom46 hi046 hsz46
                            have KY46 := Aside0.mk hy46
                            clear hy46
                            have KL46 := Aside0.mk (show ((t324.length : Int) : Int).toNat ≤ t343.length from by omega)
                            replace q46 := eq_true q46
                            go_wp2_with (first | (go_at_call 24; (with_reducible refine (spec_SameMelody.calls kj12 _ _ y353 _ _ t324 t357 _ ?side1 ?side2 ?side3 ?side4 A45.out).mono ?_); (case side1 => repeat (first | exact (by repeat (first | (with_reducible exact HR356.out) | (with_reducible refine Kd.C_alloc ?_ _) | (with_reducible refine Kd.C_drewN ?_ _) | (with_reducible refine Kd.C_drew ?_) | exact HR356.out)) | (with_reducible refine Kd.C_alloc ?_ _) | (with_reducible refine Kd.C_drewN ?_ _) | (with_reducible refine Kd.C_drew ?_))); (case side2 => exact HC356.out); (case side3 => repeat (first | exact (Kd.R_reads' HO_5.out).2.2 | (with_reducible refine Kd.C_alloc ?_ _) | (with_reducible refine Kd.C_drewN ?_ _) | (with_reducible refine Kd.C_drew ?_))); (case side4 => exact (Kd.R_reads' HO_5.out).2.1); rintro e w' ⟨rfl, ⟨nd, rfl⟩⟩))
                            go_meet
                            case rel => exact ⟨_, (!t357), (by first | rfl | (simp; done) | (simp [*]; done)), H', ⟨by have := HJ12.out; first | omega | exact Nat.le_refl _⟩, ⟨by (with_reducible repeat (first | apply Kd.R_alloc | apply Kd.R_drewN | apply Kd.R_drew)); exact Kd.R_mono HO_5.out (fun _ hk => trivial)⟩, ⟨by (with_reducible repeat (first | apply Kd.R_alloc | apply Kd.R_drewN | apply Kd.R_drew)); exact HO_18.out⟩, ⟨by (with_reducible repeat (first | apply Kd.R_alloc | apply Kd.R_drewN | apply Kd.R_drew)); exact HO_335001.out⟩, ⟨by (with_reducible repeat (first | apply Kd.R_alloc | apply Kd.R_drewN | apply Kd.R_drew)); exact HO_335002.out⟩, ⟨by (with_reducible repeat (first | refine blk_drewN ?_ _ | refine blk_drew ?_ | refine blk_alloc ?_ _)); exact BK334.out⟩, ⟨by repeat (first | (with_reducible first | exact HB.out | apply below_alloc | apply pw_below_drewN | apply below_drew1 | refine below_set ?_ GE334.out) | exact HB.out)⟩⟩
                          · rw [if_neg c44] at H
                            exact absurd H (by simp)
                        · rw [if_neg c43] at H
                          exact absurd H (by simp)
                    · rw [if_neg c41] at H
                      have c41b0 : ((Int.tmod t351 (wrap64 (t336 * (wrap64 (1 + t335))))) == 0) = false := beq_eq_false_iff_ne.mpr c41
                      have c41b1 : ((Int.tmod t351 (wrap64 (t336 * (wrap64 (1 + t335))))) != 0) = true := bne_iff_ne.mpr c41
                      have H' := Aside0.mk H
                      clear H
                      go_wp2
                      go_meet
                      case rel => exact ⟨_, (true), (by first | rfl | (simp; done) | (simp [*]; done)), H', ⟨by have := HJ12.out; first | omega | exact Nat.le_refl _⟩, ⟨by (with_reducible repeat (first | apply Kd.R_alloc | apply Kd.R_drewN | apply Kd.R_drew)); exact Kd.R_mono HO_5.out (fun _ hk => trivial)⟩, ⟨by (with_reducible repeat (first | apply Kd.R_alloc | apply Kd.R_drewN | apply Kd.R_drew)); exact HO_18.out⟩, ⟨by (with_reducible repeat (first | apply Kd.R_alloc | apply Kd.R_drewN | apply Kd.R_drew)); exact HO_335001.out⟩, ⟨by (with_reducible repeat (first | apply Kd.R_alloc | apply Kd.R_drewN | apply Kd.R_drew)); exact HO_335002.out⟩, ⟨by (with_reducible repeat (first | refine blk_drewN ?_ _ | refine blk_drew ?_ | refine blk_alloc ?_ _)); exact BK334.out⟩, ⟨by repeat (first | (with_reducible first | exact HB.out | apply below_alloc | apply pw_below_drewN | apply below_drew1 | refine below_set ?_ GE334.out) | exact HB.out)⟩⟩
            · rw [if_neg c37] at H
              have c37b0 : (t352 == 0) = false := beq_eq_false_iff_ne.mpr c37
              have c37b1 : (t352 != 0) = true := bne_iff_ne.mpr c37
              (first | rw [c37b0] | (simp only [i64_w, i32_w]; rw [c37b0]) | skip)
              have H' := Aside0.mk H
              clear H
              go_wp2
              go_meet
              case rel => exact ⟨_, (true), (by first | rfl | (simp; done) | (simp [*]; done)), H', ⟨by have := HJ12.out; first | omega | exact Nat.le_refl _⟩, ⟨by (with_reducible repeat (first | apply Kd.R_alloc | apply Kd.R_drewN | apply Kd.R_drew)); exact Kd.R_mono HO_5.out (fun _ hk => trivial)⟩, ⟨by (with_reducible repeat (first | apply Kd.R_alloc | apply Kd.R_drewN | apply Kd.R_drew)); exact HO_18.out⟩, ⟨by (with_reducible repeat (first | apply Kd.R_alloc | apply Kd.R_drewN | apply Kd.R_drew)); exact HO_335001.out⟩, ⟨by (with_reducible repeat (first | apply Kd.R_alloc | apply Kd.R_drewN | apply Kd.R_drew)); exact HO_335002.out⟩, ⟨by (with_reducible repeat (first | refine blk_drewN ?_ _ | refine blk_drew ?_ | refine blk_alloc ?_ _)); exact BK334.out⟩, ⟨by repeat (first | (with_reducible first | exact HB.out | apply below_alloc | apply pw_below_drewN | apply below_drew1 | refine below_set ?_ GE334.out) | exact HB.out)⟩⟩
          case rest => as_aux_lemma =>
            clear HC35
            try clear c1
            try clear c2
            try clear p2
            try clear c3
            try clear c4
            try clear q4
            try clear c5
            try clear c6
            try clear p6
            try clear c7
            try clear c8
            try clear c19
            try clear c20
            try clear c21
            try clear c22
            try clear c23
            try clear c28
            try clear c28b0
            try clear c28b1
            try clear c29
            try clear c29b0
            try clear c30
            try clear c30b0
            try clear c31
            try clear c31b0
            try clear c31b1
            try clear c32
            try clear c32b0
            try clear c32b1
            try clear c33
            try clear c37
            try clear c37b0
            try clear c37b1
            try clear c38
            try clear c38b0
            try clear c39
            try clear c39b0
            try clear c40
            try clear c40b0
            try clear c40b1
            try clear c41
            try clear c41b0
            try clear c41b1
            try clear c42
            try clear c42b0
            try clear c42b1
            try clear c43
            try clear c43b0
            try clear c43b1
            try clear c44
            try clear c44b0
            try clear c44b1
            try clear q46
            try clear hcz17_0
            try clear hcz17_1
            try clear hcz17_2
            try clear hcz21_0
            try clear hcz21_1
            try clear hcz21_2
            try clear hcz24_0
            try clear hcz24_1
            try clear hcz24_2
            try clear hcz26_0
            try clear hcz26_1
            try clear hcz26_2
            try clear hfz17_0
            try clear hfz17_1
            try clear hfz17_2
            try clear hfz21_0
            try clear hfz21_1
            try clear hfz21_2
            try clear hfz24_0
            try clear hfz24_1
            try clear hfz24_2
            try clear hfz26_0
            try clear hfz26_1
            try clear hfz26_2
            try clear p2
            try clear p6
            try clear q46
            obtain ⟨kq, x142_34, rfl, HA, HJ34, HO_5, HO_18, HO_335001, HO_335002, BK334, HB⟩ := hcut
            cases kq with
            | zero => exact absurd HA.out (by simp [laws_FnBars.j1])
            | succ kj34 =>
              have H := HA.out
              clear HA
              simp only [laws_FnBars.j1] at H
              by_cases c47 : x142_34 = true
              · subst c47
                have H1 : (some false) = some r := by rw [if_pos rfl] at H; exact H
                clear H
                have H := H1
                clear H1
                obtain rfl := Option.some.inj H
                go_wp2
                go_ret
                exact ⟨by first | rfl | (simp [errW_none, errW_some] <;> rfl) | (simp [*, errW_none, errW_some] <;> rfl), by repeat (first | (with_reducible first | exact HB.out | apply below_alloc | apply pw_below_drewN | apply below_drew1 | refine below_set ?_ GE334.out) | exact HB.out)⟩
              · replace c47 := Bool.eq_false_iff.mpr c47
                subst c47
                have H1 : (laws_FnBars.l0 kj34 t324 (wrap64 (1 + t335)) (wrap64 (t336 * (wrap64 (1 + t335)))) t347 0 0 t327 t328 t331) = some r := by rw [if_neg (show ¬ (false = true) by decide)] at H; exact H
                clear H
                have H := H1
                clear H1
                have H' := Aside0.mk H
                clear H
                go_wp2
                go_loopg [22, 23] kj34 (fun kq v22 v23 w' => ∃ (x22_3 : Int) (x23_3 : Int), v22 = .int .i64 x22_3 ∧ v23 = .int .i64 x23_3 ∧ Aside0 (laws_FnBars.l0 kq t324 (wrap64 (1 + t335)) (wrap64 (t336 * (wrap64 (1 + t335)))) t347 x22_3 x23_3 t327 t328 t331 = some r) ∧ Aside0 (kq ≤ kj34) ∧ Aside0 (Kd.R k51 51 w' w.heap.size (fun _ => True) (.slice Ao22 t324.length co22) t324) ∧ Aside0 (Kd.R (Kd.int .i64) 2 w' w.heap.size (fun k_ => some k_ ≠ ((.slice Ao18 t328.length co18) : Value).ownBlock ∧ some k_ ≠ ((.slice Ao19 t331.length co19) : Value).ownBlock) v348 t347) ∧ Aside0 (Kd.R (Kd.int .i64) 2 w' w.heap.size (fun k_ => some k_ ≠ (v348 : Value).ownBlock ∧ some k_ ≠ ((.slice Ao19 t331.length co19) : Value).ownBlock) (.slice Ao18 t328.length co18) t328) ∧ Aside0 (Kd.R (Kd.int .i64) 2 w' w.heap.size (fun k_ => some k_ ≠ (v348 : Value).ownBlock ∧ some k_ ≠ ((.slice Ao18 t328.length co18) : Value).ownBlock) (.slice Ao19 t331.length co19) t331) ∧ Aside0 (w'.heap[gb334]? = some (.cells #[.string t327, (.slice Ao18 t328.length co18), (.slice Ao19 t331.length co19)] 26 (0, 0))) ∧ Aside0 (Below w.heap.size w w'))
                case atStart => exact ⟨(0), (0), (by first | rfl | (simp; done) | (simp [*]; done)), (by first | rfl | (simp; done) | (simp [*]; done)), H', ⟨Nat.le_refl _⟩, ⟨by (with_reducible repeat (first | apply Kd.R_alloc | apply Kd.R_drewN | apply Kd.R_drew)); exact HO_5.out⟩, ⟨by (with_reducible repeat (first | apply Kd.R_alloc | apply Kd.R_drewN | apply Kd.R_drew)); exact HO_18.out⟩, ⟨by (with_reducible repeat (first | apply Kd.R_alloc | apply Kd.R_drewN | apply Kd.R_drew)); exact HO_335001.out⟩, ⟨by (with_reducible repeat (first | apply Kd.R_alloc | apply Kd.R_drewN | apply Kd.R_drew)); exact HO_335002.out⟩, ⟨by (with_reducible repeat (first | refine blk_drewN ?_ _ | refine blk_drew ?_ | refine blk_alloc ?_ _)); exact BK334.out⟩, ⟨by repeat (first | (with_reducible first | exact HB.out | apply below_alloc | apply pw_below_drewN | apply below_drew1 | refine below_set ?_ GE334.out) | exact HB.out)⟩⟩
                case round => as_aux_lemma =>
                  clear H'
                  try clear c1
                  try clear c2
                  try clear p2
                  try clear c3
                  try clear c4
                  try clear q4
                  try clear c5
                  try clear c6
                  try clear p6
                  try clear c7
                  try clear c8
                  try clear c19
                  try clear c20
                  try clear c21
                  try clear c22
                  try clear c23
                  try clear c28
                  try clear c28b0
                  try clear c28b1
                  try clear c29
                  try clear c29b0
                  try clear c30
                  try clear c30b0
                  try clear c31
                  try clear c31b0
                  try clear c31b1
                  try clear c32
                  try clear c32b0
                  try clear c32b1
                  try clear c33
                  try clear c37
                  try clear c37b0
                  try clear c37b1
                  try clear c38
                  try clear c38b0
                  try clear c39
                  try clear c39b0
                  try clear c40
                  try clear c40b0
                  try clear c40b1
                  try clear c41
                  try clear c41b0
                  try clear c41b1
                  try clear c42
                  try clear c42b0
                  try clear c42b1
                  try clear c43
                  try clear c43b0
                  try clear c43b1
                  try clear c44
                  try clear c44b0
                  try clear c44b1
                  try clear q46
                  try clear c47
                  try clear hcz17_0
                  try clear hcz17_1
                  try clear hcz17_2
                  try clear hcz21_0
                  try clear hcz21_1
                  try clear hcz21_2
                  try clear hcz24_0
                  try clear hcz24_1
                  try clear hcz24_2
                  try clear hcz26_0
                  try clear hcz26_1
                  try clear hcz26_2
                  try clear hfz17_0
                  try clear hfz17_1
                  try clear hfz17_2
                  try clear hfz21_0
                  try clear hfz21_1
                  try clear hfz21_2
                  try clear hfz24_0
                  try clear hfz24_1
                  try clear hfz24_2
                  try clear hfz26_0
                  try clear hfz26_1
                  try clear hfz26_2
                  try clear p2
                  try clear p6
                  try clear q4
                  try clear q46
                  obtain ⟨x22_3, x23_3, rfl, rfl, HA, HK3, HO_5, HO_18, HO_335001, HO_335002, BK334, HB⟩ := hrel
                  cases gk with
                  | zero => exact absurd HA.out (by simp [laws_FnBars.l0])
                  | succ k3 =>
                    have H := HA.out
                    clear HA
                    simp only [laws_FnBars.l0] at H
                    by_cases c48 : x23_3 < (t324.length : Int)
                    · rw [if_pos c48] at H
                      have c48b0 : decide (x23_3 < (t324.length : Int)) = true := decide_eq_true c48
                      clear c48
                      replace H := Option.bind_eq_some_iff.mp H
                      obtain ⟨t358, A490, H⟩ := H
                      replace H : (if (wrap64 (t336 * (wrap64 (1 + t335)))) = 0 then (none) else (if (t358 != ((Int.tmod x22_3 (wrap64 (t336 * (wrap64 (1 + t335))))) == 0)) = true then (some false) else (if 0 ≤ x23_3 then (laws_FnBars.l0 k3 t324 (wrap64 (1 + t335)) (wrap64 (t336 * (wrap64 (1 + t335)))) t347 (wrap64 (x22_3 + ((rd_T51 t324 x23_3).f1))) (wrap64 (x23_3 + 1)) t327 t328 t331) else (none)))) = some r := H
                      have A49 := Aside0.mk A490
                      clear A490
                      by_cases c50 : (wrap64 (t336 * (wrap64 (1 + t335)))) = 0
                      · rw [if_pos c50] at H
                        exact absurd H (by simp)
                      · rw [if_neg c50] at H
                        have c50b0 : ((wrap64 (t336 * (wrap64 (1 + t335)))) == 0) = false := beq_eq_false_iff_ne.mpr c50
                        have c50b1 : ((wrap64 (t336 * (wrap64 (1 + t335)))) != 0) = true := bne_iff_ne.mpr c50
                        by_cases c51 : (t358 != ((Int.tmod x22_3 (wrap64 (t336 * (wrap64 (1 + t335))))) == 0)) = true
                        · rw [if_pos c51] at H
                          have c51b0 : (t358 != ((Int.tmod x22_3 (wrap64 (t336 * (wrap64 (1 + t335))))) == 0)) = true := c51
                          (try (have c51b1 : decide (t358 = ((Int.tmod x22_3 (wrap64 (t336 * (wrap64 (1 + t335))))) == 0)) = false := by simpa using c51))
                          (try (have c51b2 : (t358 == ((Int.tmod x22_3 (wrap64 (t336 * (wrap64 (1 + t335))))) == 0)) = false := by simpa using c51))
                          (try (have c51b3 : ¬ (t358 = ((Int.tmod x22_3 (wrap64 (t336 * (wrap64 (1 + t335))))) == 0)) := by simpa using c51))
                          clear c51
                          obtain rfl := Option.some.inj H
                          try go_wp2
                          have n0_ := Aside0.mk (Kd.R_drew HO_5.out)
                          have n1_ := Aside0.mk (Kd.R_drew HO_18.out)
                          have n2_ := Aside0.mk (Kd.R_drew HO_335001.out)
                          have n3_ := Aside0.mk (Kd.R_drew HO_335002.out)
                          have n4_ := Aside0.mk (blk_drew BK334.out)
                          have n5_ := Aside0.mk (below_drew1 HB.out)
                          clear HO_5
                          clear HO_18
                          clear HO_335001
                          clear HO_335002
                          clear BK334
                          clear HB
                          have HO_5 := n0_
                          have HO_18 := n1_
                          have HO_335001 := n2_
                          have HO_335002 := n3_
                          have BK334 := n4_
                          have HB := n5_
                          clear n0_ n1_ n2_ n3_ n4_ n5_
                          obtain ⟨Ao53, co53, eo53⟩ := Kd.R_slice HO_18.out
                          (first | subst eo53 | (injection eo53 with f1_ f2_ f3_; have f4_ := f1_.symm; have f5_ := f3_.symm; clear f1_ f2_ f3_; subst f4_; subst f5_))
                          refine start_ (n := 8) (S := fun w' => True) (ds := []) #[false, false, false, false, false, false, false, false] (by kernel_rfl) rfl rfl trivial (fun hHeld => ?_); refine with_tabW laws_FnBars.tab21 laws_FnBars.bits21 (fun HT_ HW_ => ?_)
                          generalize wr.drew = w52 at HO_5 HO_18 HO_335001 HO_335002 BK334 HB hHeld ⊢
                          refine pure_ (i := 0) (N := some 149) (v := ?_) (a' := ?_) #[true, false, false, false, false, false, false, false] rfl rfl (any_of HT_.out (by kernel_rfl)) (fun _ _ _ h => h) (Or.inl ⟨by rfl, ?_⟩) ?_ ?_
                          rotate_left
                          · intro w'
                            go_simp
                            with_reducible rfl
                          rotate_left
                          · simp only [Act.put, List.setIfInBounds_toArray, List.set_cons_zero, List.set_cons_succ, i64_w, i32_w]
                            rfl
                          refine pure_ (i := 1) (N := some 150) (v := ?_) (a' := ?_) #[true, true, false, false, false, false, false, false] rfl rfl (any_of HT_.out (by kernel_rfl)) (fun _ _ _ h => h) (Or.inl ⟨by rfl, ?_⟩) ?_ ?_
                          rotate_left
                          · intro w'
                            go_simp
                            with_reducible rfl
                          rotate_left
                          · simp only [Act.put, List.setIfInBounds_toArray, List.set_cons_zero, List.set_cons_succ, i64_w, i32_w]
                            rfl
                          refine pure_ (i := 3) (N := some 152) (v := ?_) (a' := ?_) #[true, true, false, true, false, false, false, false] rfl rfl (any_of HT_.out (by kernel_rfl)) (fun _ _ _ h => h) (Or.inl ⟨by rfl, ?_⟩) ?_ ?_
                          rotate_left
                          · intro w'
                            go_simp
                            with_reducible rfl
                          rotate_left
                          · simp only [Act.put, List.setIfInBounds_toArray, List.set_cons_zero, List.set_cons_succ, i64_w, i32_w]
                            rfl
                          refine pure_ (i := 4) (N := some 153) (v := ?_) (a' := ?_) #[true, true, false, true, true, false, false, false] rfl rfl (any_of HT_.out (by kernel_rfl)) (fun _ _ _ h => h) (Or.inl ⟨by rfl, ?_⟩) ?_ ?_
                          rotate_left
                          · intro w'
                            go_simp
                            with_reducible rfl
                          rotate_left
                          · simp only [Act.put, List.setIfInBounds_toArray, List.set_cons_zero, List.set_cons_succ, i64_w, i32_w]
                            rfl
                          refine pure_ (i := 5) (N := some 154) (v := ?_) (a' := ?_) #[true, true, false, true, true, true, false, false] rfl rfl (any_of HT_.out (by kernel_rfl)) (fun _ _ _ h => h) (Or.inl ⟨by rfl, ?_⟩) ?_ ?_
                          rotate_left
                          · intro w'
                            go_simp
                            with_reducible rfl
                          rotate_left
                          · simp only [Act.put, List.setIfInBounds_toArray, List.set_cons_zero, List.set_cons_succ, i64_w, i32_w]
                            rfl
                          refine pure_ (i := 6) (N := some 155) (v := ?_) (a' := ?_) #[true, true, false, true, true, true, true, false] rfl rfl (any_of HT_.out (by kernel_rfl)) (fun _ _ _ h => h) (Or.inl ⟨by rfl, ?_⟩) ?_ ?_
                          rotate_left
                          · intro w'
                            go_simp
                            with_reducible rfl
                          rotate_left
                          · simp only [Act.put, List.setIfInBounds_toArray, List.set_cons_zero, List.set_cons_succ, i64_w, i32_w]
                            rfl
                          refine one_ (i := 2) (N := some 151) #[true, true, true, true, true, true, true, false] rfl rfl (one_of HT_.out (by kernel_rfl)) (by decide) (fun K hK => ?_)
                          refine goes_ Try.func25 (by kernel_rfl) rfl #[.slice Ao53 t347.length co53, .int .i64 x23_3] (by rfl) rfl rfl (by (try simp only [List.map_toArray, List.map_cons, List.map_nil]); first | done | rfl | (simp only [List.length_drop, List.length_take]; rfl)) ?_
                          with_reducible refine (laws_r8Has.calls k3 _ _ t347 x23_3 t358 _ ?side1 ?side2 A49.out).mono ?_
                          (case side1 => repeat (first | exact (Kd.R_reads' HO_18.out).2.2 | (with_reducible refine Kd.C_alloc ?_ _) | (with_reducible refine Kd.C_drewN ?_ _) | (with_reducible refine Kd.C_drew ?_)))
                          (case side2 => exact (Kd.R_reads' HO_18.out).2.1)
                          rintro e w' ⟨rfl, ⟨nd, rfl⟩⟩
                          refine ⟨_, rfl, ?_⟩
                          refine hK.out _ _ trivial (fun hHeld => ?_)
                          clear hK K
                          refine norm_ (a' := ?_) ?_ ?_
                          rotate_left
                          · show Act.put _ (some 151) _ = _
                            simp only [Act.put, List.setIfInBounds_toArray, List.set_cons_zero, List.set_cons_succ, i64_w, i32_w]
                            rfl
                          refine pure_ (i := 7) (N := some 156) (v := ?_) (a' := ?_) #[true, true, true, true, true, true, true, true] rfl rfl (any_of HT_.out (by kernel_rfl)) (fun _ _ _ h => h) (Or.inl ⟨by rfl, ?_⟩) ?_ ?_
                          rotate_left
                          · intro w'
                            go_simp
                            with_reducible rfl
                          rotate_left
                          · simp only [Act.put, List.setIfInBounds_toArray, List.set_cons_zero, List.set_cons_succ, i64_w, i32_w]
                            rfl
                          refine done_ (done_of HT_.out (by kernel_rfl)) ?_
                          try go_wp2
                          go_ret
                          exact ⟨by first | rfl | (simp [errW_none, errW_some] <;> rfl) | (simp [*, errW_none, errW_some] <;> rfl), by repeat (first | (with_reducible first | exact HB.out | apply below_alloc | apply pw_below_drewN | apply below_drew1 | refine below_set ?_ GE334.out) | exact HB.out)⟩
                        · rw [if_neg c51] at H
                          have c51b0 : (t358 != ((Int.tmod x22_3 (wrap64 (t336 * (wrap64 (1 + t335))))) == 0)) = false := by simpa using c51
                          (try (have c51b1 : decide (t358 = ((Int.tmod x22_3 (wrap64 (t336 * (wrap64 (1 + t335))))) == 0)) = true := by simpa using c51))
                          (try (have c51b2 : (t358 == ((Int.tmod x22_3 (wrap64 (t336 * (wrap64 (1 + t335))))) == 0)) = true := by simpa using c51))
                          clear c51
                          by_cases c54 : 0 ≤ x23_3
                          · rw [if_pos c54] at H
                            have c54b0 : decide (0 ≤ x23_3) = true := decide_eq_true c54
                            clear c54
                            have H' := Aside0.mk H
                            clear H
                            try go_wp2
                            have n0_ := Aside0.mk (Kd.R_drew HO_5.out)
                            have n1_ := Aside0.mk (Kd.R_drew HO_18.out)
                            have n2_ := Aside0.mk (Kd.R_drew HO_335001.out)
                            have n3_ := Aside0.mk (Kd.R_drew HO_335002.out)
                            have n4_ := Aside0.mk (blk_drew BK334.out)
                            have n5_ := Aside0.mk (below_drew1 HB.out)
                            clear HO_5
                            clear HO_18
                            clear HO_335001
                            clear HO_335002
                            clear BK334
                            clear HB
                            have HO_5 := n0_
                            have HO_18 := n1_
                            have HO_335001 := n2_
                            have HO_335002 := n3_
                            have BK334 := n4_
                            have HB := n5_
                            clear n0_ n1_ n2_ n3_ n4_ n5_
                            obtain ⟨Ao56, co56, eo56⟩ := Kd.R_slice HO_18.out
                            (first | subst eo56 | (injection eo56 with f1_ f2_ f3_; have f4_ := f1_.symm; have f5_ := f3_.symm; clear f1_ f2_ f3_; subst f4_; subst f5_))
                            refine start_ (n := 8) (S := fun w' => True) (ds := []) #[false, false, false, false, false, false, false, false] (by kernel_rfl) rfl rfl trivial (fun hHeld => ?_); refine with_tabW laws_FnBars.tab21 laws_FnBars.bits21 (fun HT_ HW_ => ?_)
                            generalize wr.drew = w55 at HO_5 HO_18 HO_335001 HO_335002 BK334 HB hHeld ⊢
                            refine pure_ (i := 0) (N := some 149) (v := ?_) (a' := ?_) #[true, false, false, false, false, false, false, false] rfl rfl (any_of HT_.out (by kernel_rfl)) (fun _ _ _ h => h) (Or.inl ⟨by rfl, ?_⟩) ?_ ?_
                            rotate_left
                            · intro w'
                              go_simp
                              with_reducible rfl
                            rotate_left
                            · simp only [Act.put, List.setIfInBounds_toArray, List.set_cons_zero, List.set_cons_succ, i64_w, i32_w]
                              rfl
                            refine pure_ (i := 1) (N := some 150) (v := ?_) (a' := ?_) #[true, true, false, false, false, false, false, false] rfl rfl (any_of HT_.out (by kernel_rfl)) (fun _ _ _ h => h) (Or.inl ⟨by rfl, ?_⟩) ?_ ?_
                            rotate_left
                            · intro w'
                              go_simp
                              with_reducible rfl
                            rotate_left
                            · simp only [Act.put, List.setIfInBounds_toArray, List.set_cons_zero, List.set_cons_succ, i64_w, i32_w]
                              rfl
                            refine pure_ (i := 3) (N := some 152) (v := ?_) (a' := ?_) #[true, true, false, true, false, false, false, false] rfl rfl (any_of HT_.out (by kernel_rfl)) (fun _ _ _ h => h) (Or.inl ⟨by rfl, ?_⟩) ?_ ?_
                            rotate_left
                            · intro w'
                              go_simp
                              with_reducible rfl
                            rotate_left
                            · simp only [Act.put, List.setIfInBounds_toArray, List.set_cons_zero, List.set_cons_succ, i64_w, i32_w]
                              rfl
                            refine pure_ (i := 4) (N := some 153) (v := ?_) (a' := ?_) #[true, true, false, true, true, false, false, false] rfl rfl (any_of HT_.out (by kernel_rfl)) (fun _ _ _ h => h) (Or.inl ⟨by rfl, ?_⟩) ?_ ?_
                            rotate_left
                            · intro w'
                              go_simp
                              with_reducible rfl
                            rotate_left
                            · simp only [Act.put, List.setIfInBounds_toArray, List.set_cons_zero, List.set_cons_succ, i64_w, i32_w]
                              rfl
                            refine pure_ (i := 5) (N := some 154) (v := ?_) (a' := ?_) #[true, true, false, true, true, true, false, false] rfl rfl (any_of HT_.out (by kernel_rfl)) (fun _ _ _ h => h) (Or.inl ⟨by rfl, ?_⟩) ?_ ?_
                            rotate_left
                            · intro w'
                              go_simp
                              with_reducible rfl
                            rotate_left
                            · simp only [Act.put, List.setIfInBounds_toArray, List.set_cons_zero, List.set_cons_succ, i64_w, i32_w]
                              rfl
                            refine pure_ (i := 6) (N := some 155) (v := ?_) (a' := ?_) #[true, true, false, true, true, true, true, false] rfl rfl (any_of HT_.out (by kernel_rfl)) (fun _ _ _ h => h) (Or.inl ⟨by rfl, ?_⟩) ?_ ?_
                            rotate_left
                            · intro w'
                              go_simp
                              with_reducible rfl
                            rotate_left
                            · simp only [Act.put, List.setIfInBounds_toArray, List.set_cons_zero, List.set_cons_succ, i64_w, i32_w]
                              rfl
                            refine one_ (i := 2) (N := some 151) #[true, true, true, true, true, true, true, false] rfl rfl (one_of HT_.out (by kernel_rfl)) (by decide) (fun K hK => ?_)
                            refine goes_ Try.func25 (by kernel_rfl) rfl #[.slice Ao56 t347.length co56, .int .i64 x23_3] (by rfl) rfl rfl (by (try simp only [List.map_toArray, List.map_cons, List.map_nil]); first | done | rfl | (simp only [List.length_drop, List.length_take]; rfl)) ?_
                            with_reducible refine (laws_r8Has.calls k3 _ _ t347 x23_3 t358 _ ?side1 ?side2 A49.out).mono ?_
                            (case side1 => repeat (first | exact (Kd.R_reads' HO_18.out).2.2 | (with_reducible refine Kd.C_alloc ?_ _) | (with_reducible refine Kd.C_drewN ?_ _) | (with_reducible refine Kd.C_drew ?_)))
                            (case side2 => exact (Kd.R_reads' HO_18.out).2.1)
                            rintro e w' ⟨rfl, ⟨nd, rfl⟩⟩
                            refine ⟨_, rfl, ?_⟩
                            refine hK.out _ _ trivial (fun hHeld => ?_)
                            clear hK K
                            refine norm_ (a' := ?_) ?_ ?_
                            rotate_left
                            · show Act.put _ (some 151) _ = _
                              simp only [Act.put, List.setIfInBounds_toArray, List.set_cons_zero, List.set_cons_succ, i64_w, i32_w]
                              rfl
                            refine pure_ (i := 7) (N := some 156) (v := ?_) (a' := ?_) #[true, true, true, true, true, true, true, true] rfl rfl (any_of HT_.out (by kernel_rfl)) (fun _ _ _ h => h) (Or.inl ⟨by rfl, ?_⟩) ?_ ?_
                            rotate_left
                            · intro w'
                              go_simp
                              with_reducible rfl
                            rotate_left
                            · simp only [Act.put, List.setIfInBounds_toArray, List.set_cons_zero, List.set_cons_succ, i64_w, i32_w]
                              rfl
                            refine done_ (done_of HT_.out (by kernel_rfl)) ?_
                            have p359 : 0 ≤ (x23_3 : Int) := of_decide_eq_true (by first | (with_reducible assumption) | assumption)
                            have q359 : x23_3 < (t324.length : Int) := of_decide_eq_true (by first | (with_reducible assumption) | assumption)
                            obtain ⟨ad359, e359, hx359_0, hx359_1⟩ := at_T51 (Kd.R_reads' HO_5.out).2.2 x23_3 p359 q359
                            cases e359
                            replace p359 := eq_true p359
                            replace q359 := eq_true q359
                            try go_wp2
                            go_roundg k3
                            case measure => have := HJ12.out; have := HJ34.out; have := HK3.out; omega
                            case rel => exact ⟨(wrap64 (x22_3 + ((rd_T51 t324 x23_3).f1))), (wrap64 (x23_3 + 1)), (by first | rfl | (simp; done) | (simp [*]; done)), (by first | rfl | (simp; done) | (simp [*]; done)), H', ⟨by have := HJ12.out; have := HJ34.out; have := HK3.out; omega⟩, ⟨by (with_reducible repeat (first | apply Kd.R_alloc | apply Kd.R_drewN | apply Kd.R_drew)); exact HO_5.out⟩, ⟨by (with_reducible repeat (first | apply Kd.R_alloc | apply Kd.R_drewN | apply Kd.R_drew)); exact HO_18.out⟩, ⟨by (with_reducible repeat (first | apply Kd.R_alloc | apply Kd.R_drewN | apply Kd.R_drew)); exact HO_335001.out⟩, ⟨by (with_reducible repeat (first | apply Kd.R_alloc | apply Kd.R_drewN | apply Kd.R_drew)); exact HO_335002.out⟩, ⟨by (with_reducible repeat (first | refine blk_drewN ?_ _ | refine blk_drew ?_ | refine blk_alloc ?_ _)); exact BK334.out⟩, ⟨by repeat (first | (with_reducible first | exact HB.out | apply below_alloc | apply pw_below_drewN | apply below_drew1 | refine below_set ?_ GE334.out) | exact HB.out)⟩⟩
                          · rw [if_neg c54] at H
                            exact absurd H (by simp)
                    · rw [if_neg c48] at H
                      have c48b0 : decide (x23_3 < (t324.length : Int)) = false := decide_eq_false c48
                      clear c48
                      replace H := Option.bind_eq_some_iff.mp H
                      obtain ⟨⟨t360, t363⟩, A570, H⟩ := H
                      replace H : (if t363 = 0 then (if 0 ≤ (t324.length : Int) then (if ((t324.length : Int) : Int).toNat ≤ 35184372088832 then (laws_FnBars.l1 k3 t324 t360 (List.replicate ((t324.length : Int) : Int).toNat 0) 0) else (none)) else (none)) else (some (t363 == 5))) = some r := H
                      have A57 := Aside0.mk A570
                      clear A570
                      by_cases c58 : t363 = 0
                      · rw [if_pos c58] at H
                        have c58b0 : (t363 == 0) = true := beq_iff_eq.mpr c58
                        have c58b1 : (t363 != 0) = false := bne_eq_false_iff_eq.mpr c58
                        clear c58
                        by_cases c59 : 0 ≤ (t324.length : Int)
                        · rw [if_pos c59] at H
                          have c59b0 := eq_true c59
                          have c59b1 : decide (0 ≤ (t324.length : Int)) = true := decide_eq_true c59
                          clear c59
                          by_cases c60 : ((t324.length : Int) : Int).toNat ≤ 35184372088832
                          · rw [if_pos c60] at H
                            have c60b0 := eq_true c60
                            have c60b1 : decide (((t324.length : Int) : Int).toNat ≤ 35184372088832) = true := decide_eq_true c60
                            clear c60
                            obtain ⟨y364, hy364⟩ : ∃ y_ : List Int, y_ = (List.replicate ((t324.length : Int) : Int).toNat 0) := ⟨_, rfl⟩
                            replace H : (laws_FnBars.l1 k3 t324 t360 y364 0) = some r := by first | (rw [hy364]; with_reducible exact H) | (have H2_ := (Option.bind_some _ _).symm.trans H; rw [hy364]; with_reducible exact H2_) | (have H2_ := (Option.bind_some _ _).symm.trans H; with_reducible exact H2_) | with_reducible exact H | (rw [hy364]; exact H) | exact H
                            have Ny364 := Aside0.mk hy364
                            clear hy364
                            have H' := Aside0.mk H
                            clear H
                            have hcz61_0 : wr.cell? ⟨gb334, 0, none⟩ = some (.string t327) := (blk_cell BK334.out 0).trans rfl
                            have hcz61_1 : wr.cell? ⟨gb334, 1, none⟩ = some (.slice Ao18 t328.length co18) := (blk_cell BK334.out 1).trans rfl
                            have hcz61_2 : wr.cell? ⟨gb334, 2, none⟩ = some (.slice Ao19 t331.length co19) := (blk_cell BK334.out 2).trans rfl
                            have hfz61_0 := blk_frozen BK334.out 0
                            have hfz61_1 := blk_frozen BK334.out 1
                            have hfz61_2 := blk_frozen BK334.out 2
                            go_wp2_with (first | ((with_reducible refine gate_callee (f := 26) rfl ?_); refine goesL_ (some 168) rfl rfl Try.func26 (by kernel_rfl) rfl #[.slice Ao22 t324.length co22, .agg #[.string t327, .slice Ao18 t328.length co18, .slice Ao19 t331.length co19], .int .i64 (wrap64 (1 + t335))] rfl (by (try simp only [List.map_toArray, List.map_cons, List.map_nil]); first | done | rfl | (simp only [List.length_drop, List.length_take]; rfl)) ?_; (with_reducible refine (impl_SplitNotes.calls k3 _ _ t324 t327 _ _ t328 _ _ t331 (wrap64 (1 + t335)) t360 t363 _ ?side1 ?side2 ?side3 ?side4 ?side5 ?side6 A57.out).mono ?_); (case side1 => repeat (first | exact (Kd.R_reads' HO_5.out).2.2 | (with_reducible refine Kd.C_alloc ?_ _) | (with_reducible refine Kd.C_drewN ?_ _) | (with_reducible refine Kd.C_drew ?_))); (case side2 => exact (Kd.R_reads' HO_5.out).2.1); (case side3 => repeat (first | exact (Kd.R_reads' HO_335001.out).2.2 | (with_reducible refine Kd.C_alloc ?_ _) | (with_reducible refine Kd.C_drewN ?_ _) | (with_reducible refine Kd.C_drew ?_))); (case side4 => exact (Kd.R_reads' HO_335001.out).2.1); (case side5 => repeat (first | exact (Kd.R_reads' HO_335002.out).2.2 | (with_reducible refine Kd.C_alloc ?_ _) | (with_reducible refine Kd.C_drewN ?_ _) | (with_reducible refine Kd.C_drew ?_))); (case side6 => exact (Kd.R_reads' HO_335002.out).2.1); rintro e w62 ⟨v361, rfl, ho0, hb⟩; refine ⟨_, rfl, ?_⟩; have n0_ := Aside0.mk (Kd.R_below (by (with_reducible repeat (first | apply Kd.R_alloc | apply Kd.R_drewN | apply Kd.R_drew)); exact HO_5.out) hb); have n1_ := Aside0.mk (Kd.R_below (by (with_reducible repeat (first | apply Kd.R_alloc | apply Kd.R_drewN | apply Kd.R_drew)); exact HO_18.out) hb); have n2_ := Aside0.mk (Kd.R_below (by (with_reducible repeat (first | apply Kd.R_alloc | apply Kd.R_drewN | apply Kd.R_drew)); exact HO_335001.out) hb); have n3_ := Aside0.mk (Kd.R_below (by (with_reducible repeat (first | apply Kd.R_alloc | apply Kd.R_drewN | apply Kd.R_drew)); exact HO_335002.out) hb); have n4_ := Aside0.mk (Kd.S_lower (Kd.S_new' (Kd.S_new' (Kd.S_new' ho0 (Kd.R_lt (by (with_reducible repeat (first | apply Kd.R_alloc | apply Kd.R_drewN | apply Kd.R_drew)); exact HO_18.out))) (Kd.R_lt (by (with_reducible repeat (first | apply Kd.R_alloc | apply Kd.R_drewN | apply Kd.R_drew)); exact HO_335001.out))) (Kd.R_lt (by (with_reducible repeat (first | apply Kd.R_alloc | apply Kd.R_drewN | apply Kd.R_drew)); exact HO_335002.out))) (below_size (by repeat (first | (with_reducible first | exact HB.out | apply below_alloc | apply pw_below_drewN | apply below_drew1 | refine below_set ?_ GE334.out) | exact HB.out)))); have n5_ := Aside0.mk (blk_below (g := gb334) (o := .cells #[.string t327, .slice Ao18 t328.length co18, .slice Ao19 t331.length co19] 26 (0, 0)) (by (with_reducible repeat (first | refine blk_drewN ?_ _ | refine blk_drew ?_ | refine blk_alloc ?_ _)); exact BK334.out) hb); have n6_ := Aside0.mk (below_step (by repeat (first | (with_reducible first | exact HB.out | apply below_alloc | apply pw_below_drewN | apply below_drew1 | refine below_set ?_ GE334.out) | exact HB.out)) hb); clear HO_5; clear HO_18; clear HO_335001; clear HO_335002; clear BK334; clear HB; have HO_5 := n0_; have HO_18 := n1_; have HO_335001 := n2_; have HO_335002 := n3_; have HO362 := n4_; have BK334 := n5_; have HB := n6_; clear n0_ n1_ n2_ n3_ n4_ n5_ n6_; (try clear hb); (try clear hb2); (try clear hk); (try clear hi); (try clear ho0)) | ((with_reducible refine gate_dst (N := 177) rfl ?_); (try (refine gate_guard (by rfl) ?_; dsimp only)); refine Kd.R_make (Kd.int .i64) _ 2 rfl (N := 177) rfl 24 _ _ rfl (t324.length : Int) rfl rfl Try.underlying24 (.int .i64 0) 8 info2 rfl (by decide) (by omega) 0 (ok := fun _ => True) (okp := fun _ => True) rfl (fun _ hk => hk) trivial (of_decide_eq_true (by first | (with_reducible assumption) | assumption)) (Nat.le_trans (Nat.mul_le_mul_right _ (of_decide_eq_true (by first | (with_reducible assumption) | assumption) : (t324.length : Int).toNat ≤ 35184372088832)) (by omega)) (Below.refl _ _) (Nat.le_refl _) ?_; intro v365 w63 ho64 hb hg_ hnew_; clear hg_ hnew_; (first | rw [← Ny364.out] at ho64 | (simp only [Int.reduceToNat] at ho64; rw [← Ny364.out] at ho64)); have n0_ := Aside0.mk (Kd.R_below (by (with_reducible repeat (first | apply Kd.R_alloc | apply Kd.R_drewN | apply Kd.R_drew)); exact HO_5.out) hb); have n1_ := Aside0.mk (Kd.R_elder' (by (with_reducible repeat (first | apply Kd.R_alloc | apply Kd.R_drewN | apply Kd.R_drew)); exact HO_18.out) (Kd.R_base ho64) hb); have n2_ := Aside0.mk (Kd.R_elder' (by (with_reducible repeat (first | apply Kd.R_alloc | apply Kd.R_drewN | apply Kd.R_drew)); exact HO_335001.out) (Kd.R_base ho64) hb); have n3_ := Aside0.mk (Kd.R_elder' (by (with_reducible repeat (first | apply Kd.R_alloc | apply Kd.R_drewN | apply Kd.R_drew)); exact HO_335002.out) (Kd.R_base ho64) hb); have n4_ := Aside0.mk (Kd.S_elder' (by (with_reducible repeat (first | apply Kd.S_alloc | apply Kd.S_drewN | apply Kd.S_drew)); exact HO362.out) (Kd.R_base ho64) hb); have n5_ := Aside0.mk (Kd.R_lower (Kd.R_new' (Kd.R_new' (Kd.R_new' ho64 (Kd.R_lt (by (with_reducible repeat (first | apply Kd.R_alloc | apply Kd.R_drewN | apply Kd.R_drew)); exact HO_18.out))) (Kd.R_lt (by (with_reducible repeat (first | apply Kd.R_alloc | apply Kd.R_drewN | apply Kd.R_drew)); exact HO_335001.out))) (Kd.R_lt (by (with_reducible repeat (first | apply Kd.R_alloc | apply Kd.R_drewN | apply Kd.R_drew)); exact HO_335002.out))) (below_size (by repeat (first | (with_reducible first | exact HB.out | apply below_alloc | apply pw_below_drewN | apply below_drew1 | refine below_set ?_ GE334.out) | exact HB.out)))); have n6_ := Aside0.mk (blk_below (g := gb334) (o := .cells #[.string t327, .slice Ao18 t328.length co18, .slice Ao19 t331.length co19] 26 (0, 0)) (by (with_reducible repeat (first | refine blk_drewN ?_ _ | refine blk_drew ?_ | refine blk_alloc ?_ _)); exact BK334.out) hb); have n7_ := Aside0.mk (below_step (by repeat (first | (with_reducible first | exact HB.out | apply below_alloc | apply pw_below_drewN | apply below_drew1 | refine below_set ?_ GE334.out) | exact HB.out)) hb); clear HO_5; clear HO_18; clear HO_335001; clear HO_335002; clear HO362; clear BK334; clear HB; have HO_5 := n0_; have HO_18 := n1_; have HO_335001 := n2_; have HO_335002 := n3_; have HO362 := n4_; have HO366 := n5_; have BK334 := n6_; have HB := n7_; clear n0_ n1_ n2_ n3_ n4_ n5_ n6_ n7_; clear hb ho64))
                            go_loopg [27] k3 (fun kq v27 w' => ∃ (x26_4 : List Int) (x27_4 : Int), v27 = .int .i64 x27_4 ∧ Aside0 (laws_FnBars.l1 kq t324 t360 x26_4 x27_4 = some r) ∧ Aside0 (kq ≤ k3) ∧ Aside0 (Kd.R k51 51 w' w.heap.size (fun _ => True) (.slice Ao22 t324.length co22) t324) ∧ Aside0 (Kd.S (Kd.slice 2 (Kd.int .i64)) 24 w' w.heap.size (fun k_ => some k_ ≠ (v365 : Value).ownBlock ∧ some k_ ≠ ((.slice Ao18 t328.length co18) : Value).ownBlock ∧ some k_ ≠ ((.slice Ao19 t331.length co19) : Value).ownBlock) v361 t360) ∧ Aside0 (Kd.R (Kd.int .i64) 2 w' w.heap.size (fun k_ => some k_ ≠ ((.slice Ao18 t328.length co18) : Value).ownBlock ∧ some k_ ≠ ((.slice Ao19 t331.length co19) : Value).ownBlock) v365 x26_4) ∧ Aside0 (Kd.R (Kd.int .i64) 2 w' w.heap.size (fun k_ => some k_ ≠ (v365 : Value).ownBlock ∧ some k_ ≠ ((.slice Ao19 t331.length co19) : Value).ownBlock) (.slice Ao18 t328.length co18) t328) ∧ Aside0 (Kd.R (Kd.int .i64) 2 w' w.heap.size (fun k_ => some k_ ≠ (v365 : Value).ownBlock ∧ some k_ ≠ ((.slice Ao18 t328.length co18) : Value).ownBlock) (.slice Ao19 t331.length co19) t331) ∧ Aside0 (w'.heap[gb334]? = some (.cells #[.string t327, (.slice Ao18 t328.length co18), (.slice Ao19 t331.length co19)] 26 (0, 0))) ∧ Aside0 (Below w.heap.size w w'))
                            case atStart => exact ⟨(y364), (0), (by first | rfl | (simp; done) | (simp [*]; done)), H', ⟨Nat.le_refl _⟩, ⟨by (with_reducible repeat (first | apply Kd.R_alloc | apply Kd.R_drewN | apply Kd.R_drew)); exact HO_5.out⟩, ⟨by (with_reducible repeat (first | apply Kd.S_alloc | apply Kd.S_drewN | apply Kd.S_drew)); exact Kd.S_mono HO362.out (fun _ hk => ⟨hk.2, ⟨hk.1.1.2, hk.1.2⟩⟩)⟩, ⟨by (with_reducible repeat (first | apply Kd.R_alloc | apply Kd.R_drewN | apply Kd.R_drew)); exact Kd.R_mono HO366.out (fun _ hk => ⟨hk.1.2, hk.2⟩)⟩, ⟨by (with_reducible repeat (first | apply Kd.R_alloc | apply Kd.R_drewN | apply Kd.R_drew)); exact Kd.R_mono HO_335001.out (fun _ hk => ⟨hk.2, hk.1.2⟩)⟩, ⟨by (with_reducible repeat (first | apply Kd.R_alloc | apply Kd.R_drewN | apply Kd.R_drew)); exact Kd.R_mono HO_335002.out (fun _ hk => ⟨hk.2, hk.1.2⟩)⟩, ⟨by (with_reducible repeat (first | refine blk_drewN ?_ _ | refine blk_drew ?_ | refine blk_alloc ?_ _)); exact BK334.out⟩, ⟨by repeat (first | (with_reducible first | exact HB.out | apply below_alloc | apply pw_below_drewN | apply below_drew1 | refine below_set ?_ GE334.out) | exact HB.out)⟩⟩
                            case round => as_aux_lemma =>
                              clear H'
                              try clear c1
                              try clear c2
                              try clear p2
                              try clear c3
                              try clear p3
                              try clear q3
                              try clear hx3
                              try clear c4
                              try clear q4
                              try clear c5
                              try clear c6
                              try clear p6
                              try clear c7
                              try clear c8
                              try clear c19
                              try clear c20
                              try clear c21
                              try clear c22
                              try clear c23
                              try clear c25
                              try clear c26
                              try clear c28
                              try clear c28b0
                              try clear c28b1
                              try clear c29
                              try clear c29b0
                              try clear c30
                              try clear c30b0
                              try clear c31
                              try clear c31b0
                              try clear c31b1
                              try clear c32
                              try clear c32b0
                              try clear c32b1
                              try clear c33
                              try clear p35
                              try clear q35
                              try clear hx35
                              try clear c37
                              try clear c37b0
                              try clear c37b1
                              try clear c38
                              try clear c38b0
                              try clear c39
                              try clear c39b0
                              try clear c40
                              try clear c40b0
                              try clear c40b1
                              try clear c41
                              try clear c41b0
                              try clear c41b1
                              try clear c42
                              try clear c42b0
                              try clear c42b1
                              try clear c43
                              try clear c43b0
                              try clear c43b1
                              try clear c44
                              try clear c44b0
                              try clear c44b1
                              try clear q46
                              try clear c47
                              try clear c48
                              try clear c48b0
                              try clear c50
                              try clear c50b0
                              try clear c50b1
                              try clear c51
                              try clear c51b0
                              try clear c51b1
                              try clear c51b2
                              try clear c54
                              try clear c54b0
                              try clear c58
                              try clear c58b0
                              try clear c58b1
                              try clear c59
                              try clear c59b0
                              try clear c59b1
                              try clear c60
                              try clear c60b0
                              try clear c60b1
                              try clear p64
                              try clear hcz17_0
                              try clear hcz17_1
                              try clear hcz17_2
                              try clear hcz21_0
                              try clear hcz21_1
                              try clear hcz21_2
                              try clear hcz24_0
                              try clear hcz24_1
                              try clear hcz24_2
                              try clear hcz26_0
                              try clear hcz26_1
                              try clear hcz26_2
                              try clear hcz61_0
                              try clear hcz61_1
                              try clear hcz61_2
                              try clear hfz17_0
                              try clear hfz17_1
                              try clear hfz17_2
                              try clear hfz21_0
                              try clear hfz21_1
                              try clear hfz21_2
                              try clear hfz24_0
                              try clear hfz24_1
                              try clear hfz24_2
                              try clear hfz26_0
                              try clear hfz26_1
                              try clear hfz26_2
                              try clear hfz61_0
                              try clear hfz61_1
                              try clear hfz61_2
                              try clear hx359_0
                              try clear hx359_1
                              try clear p2
                              try clear p359
                              try clear p6
                              try clear q359
                              try clear q4
                              try clear q46
                              obtain ⟨x26_4, x27_4, rfl, HA, HK4, HO_5, HO_24, HO_26, HO_335001, HO_335002, BK334, HB⟩ := hrel
                              cases gk with
                              | zero => exact absurd HA.out (by simp [laws_FnBars.l1])
                              | succ k4 =>
                                have H := HA.out
                                clear HA
                                simp only [laws_FnBars.l1] at H
                                by_cases c65 : x27_4 < (t360.length : Int)
                                · rw [if_pos c65] at H
                                  have c65b0 : decide (x27_4 < (t360.length : Int)) = true := decide_eq_true c65
                                  clear c65
                                  by_cases c66 : 0 ≤ x27_4
                                  · rw [if_pos c66] at H
                                    have c66b0 : decide (0 ≤ x27_4) = true := decide_eq_true c66
                                    clear c66
                                    by_cases c67 : ((rd_L3 t360 x27_4).length : Int) = 2
                                    · rw [if_pos c67] at H
                                      have c67b0 : (((rd_L3 t360 x27_4).length : Int) == 2) = true := beq_iff_eq.mpr c67
                                      have c67b1 : (((rd_L3 t360 x27_4).length : Int) != 2) = false := bne_eq_false_iff_eq.mpr c67
                                      clear c67
                                      by_cases c68 : 0 < ((rd_L3 t360 x27_4).length : Int)
                                      · rw [if_pos c68] at H
                                        have c68b0 : decide (0 < ((rd_L3 t360 x27_4).length : Int)) = true := decide_eq_true c68
                                        have c68b1 : decide (0 < (rd_L3 t360 x27_4).length) = true := decide_eq_true (by omega)
                                        clear c68
                                        by_cases c69 : (rd (rd_L3 t360 x27_4) 0) < 0
                                        · rw [if_pos c69] at H
                                          have c69b0 : decide ((rd (rd_L3 t360 x27_4) 0) < 0) = true := decide_eq_true c69
                                          clear c69
                                          obtain rfl := Option.some.inj H
                                          obtain ⟨Ao70, co70, eo70⟩ := Kd.S_slice HO_24.out
                                          subst eo70
                                          have p367 : 0 ≤ (x27_4 : Int) := of_decide_eq_true (by first | (with_reducible assumption) | assumption)
                                          have q367 : x27_4 < (t360.length : Int) := of_decide_eq_true (by first | (with_reducible assumption) | assumption)
                                          obtain ⟨ad367, A367_0, c367_0, e367, hx367_0, hl367_0, hi367_0⟩ := at_L3 (Kd.S_reads' HO_24.out).2.2 x27_4 p367 q367
                                          cases e367
                                          obtain ⟨ce367, hce367, hMe367, hcc367⟩ := Kd.S_get HO_24.out [] x27_4 p367 (by first | exact q367 | exact of_decide_eq_true (by first | (with_reducible assumption) | assumption) | (have e_ := (Kd.S_reads' HO_24.out).1; omega))
                                          obtain ⟨ve367_0, rfl, ge367_0⟩ := hMe367
                                          have hv367_0 := hcc367 0 _ rfl
                                          rw [Nat.add_zero, show ((Kd.slice 2 (Kd.int .i64))).sz = 1 from rfl, Nat.mul_one] at hv367_0
                                          replace hv367_0 := Option.some.inj (hv367_0.symm.trans hx367_0)
                                          rw [hv367_0] at ge367_0
                                          have HL367_0 := Aside0.mk (show Kd.R (Kd.int .i64) 2 _ _ _ _ (rd_L3 t360 x27_4) from ge367_0)
                                          clear hv367_0 ge367_0
                                          clear hcc367 hce367
                                          have HR367_0 := Aside0.mk hi367_0
                                          have HC367_0 := Aside0.mk hl367_0
                                          clear hi367_0 hl367_0
                                          replace p367 := eq_true p367
                                          replace q367 := eq_true q367
                                          have p368 : 0 ≤ (x27_4 : Int) := of_decide_eq_true (by first | (with_reducible assumption) | assumption)
                                          have q368 : x27_4 < (t360.length : Int) := of_decide_eq_true (by first | (with_reducible assumption) | assumption)
                                          obtain ⟨ad368, A368_0, c368_0, e368, hx368_0, hl368_0, hi368_0⟩ := at_L3 (Kd.S_reads' HO_24.out).2.2 x27_4 p368 q368
                                          obtain rfl : ad367 = ad368 := (by injection e368)
                                          obtain ⟨ce368, hce368, hMe368, hcc368⟩ := Kd.S_get HO_24.out [] x27_4 p368 (by first | exact q368 | exact of_decide_eq_true (by first | (with_reducible assumption) | assumption) | (have e_ := (Kd.S_reads' HO_24.out).1; omega))
                                          obtain ⟨ve368_0, rfl, ge368_0⟩ := hMe368
                                          have hv368_0 := hcc368 0 _ rfl
                                          rw [Nat.add_zero, show ((Kd.slice 2 (Kd.int .i64))).sz = 1 from rfl, Nat.mul_one] at hv368_0
                                          replace hv368_0 := Option.some.inj (hv368_0.symm.trans hx368_0)
                                          rw [hv368_0] at ge368_0
                                          have HL368_0 := Aside0.mk (show Kd.R (Kd.int .i64) 2 _ _ _ _ (rd_L3 t360 x27_4) from ge368_0)
                                          clear hv368_0 ge368_0
                                          clear hcc368 hce368
                                          have HR368_0 := Aside0.mk hi368_0
                                          have HC368_0 := Aside0.mk hl368_0
                                          clear hi368_0 hl368_0
                                          replace p368 := eq_true p368
                                          replace q368 := eq_true q368
                                          have ea_ := Option.some.inj (hx367_0.symm.trans hx368_0)
                                          injection ea_ with ea_ en_ ec_
                                          subst ea_
                                          subst ec_
                                          clear en_
                                          have p369 : 0 ≤ (0 : Int) := (by omega)
                                          have q369 : 0 < ((rd_L3 t360 x27_4).length : Int) := of_decide_eq_true (by first | (with_reducible assumption) | assumption)
                                          obtain ⟨ad369, e369, hx369_0⟩ := Kd.at_int (by repeat (first | (with_reducible exact HR368_0.out) | (with_reducible refine Kd.C_alloc ?_ _) | (with_reducible refine Kd.C_drewN ?_ _) | (with_reducible refine Kd.C_drew ?_) | exact HR368_0.out)) 0 p369 q369
                                          cases e369
                                          have qi369 : (0 < (rd_L3 t360 x27_4).length) = True := eq_true (by omega)
                                          (try rw [show ((0 : Int)).toNat = 0 from rfl] at hx369_0)
                                          (try rw [Addr.add_zero'] at hx369_0)
                                          replace p369 := eq_true p369
                                          replace q369 := eq_true q369
                                          go_wp2
                                          go_ret
                                          exact ⟨by first | rfl | (simp [errW_none, errW_some] <;> rfl) | (simp [*, errW_none, errW_some] <;> rfl), by repeat (first | (with_reducible first | exact HB.out | apply below_alloc | apply pw_below_drewN | apply below_drew1 | refine below_set ?_ GE334.out) | exact HB.out)⟩
                                        · rw [if_neg c69] at H
                                          have c69b0 : decide ((rd (rd_L3 t360 x27_4) 0) < 0) = false := decide_eq_false c69
                                          clear c69
                                          by_cases c71 : (rd (rd_L3 t360 x27_4) 0) ≥ (t324.length : Int)
                                          · rw [if_pos c71] at H
                                            have c71b0 : decide ((t324.length : Int) ≤ (rd (rd_L3 t360 x27_4) 0)) = true := decide_eq_true c71
                                            clear c71
                                            obtain rfl := Option.some.inj H
                                            obtain ⟨Ao72, co72, eo72⟩ := Kd.S_slice HO_24.out
                                            subst eo72
                                            have p367 : 0 ≤ (x27_4 : Int) := of_decide_eq_true (by first | (with_reducible assumption) | assumption)
                                            have q367 : x27_4 < (t360.length : Int) := of_decide_eq_true (by first | (with_reducible assumption) | assumption)
                                            obtain ⟨ad367, A367_0, c367_0, e367, hx367_0, hl367_0, hi367_0⟩ := at_L3 (Kd.S_reads' HO_24.out).2.2 x27_4 p367 q367
                                            cases e367
                                            obtain ⟨ce367, hce367, hMe367, hcc367⟩ := Kd.S_get HO_24.out [] x27_4 p367 (by first | exact q367 | exact of_decide_eq_true (by first | (with_reducible assumption) | assumption) | (have e_ := (Kd.S_reads' HO_24.out).1; omega))
                                            obtain ⟨ve367_0, rfl, ge367_0⟩ := hMe367
                                            have hv367_0 := hcc367 0 _ rfl
                                            rw [Nat.add_zero, show ((Kd.slice 2 (Kd.int .i64))).sz = 1 from rfl, Nat.mul_one] at hv367_0
                                            replace hv367_0 := Option.some.inj (hv367_0.symm.trans hx367_0)
                                            rw [hv367_0] at ge367_0
                                            have HL367_0 := Aside0.mk (show Kd.R (Kd.int .i64) 2 _ _ _ _ (rd_L3 t360 x27_4) from ge367_0)
                                            clear hv367_0 ge367_0
                                            clear hcc367 hce367
                                            have HR367_0 := Aside0.mk hi367_0
                                            have HC367_0 := Aside0.mk hl367_0
                                            clear hi367_0 hl367_0
                                            replace p367 := eq_true p367
                                            replace q367 := eq_true q367
                                            have p368 : 0 ≤ (x27_4 : Int) := of_decide_eq_true (by first | (with_reducible assumption) | assumption)
                                            have q368 : x27_4 < (t360.length : Int) := of_decide_eq_true (by first | (with_reducible assumption) | assumption)
                                            obtain ⟨ad368, A368_0, c368_0, e368, hx368_0, hl368_0, hi368_0⟩ := at_L3 (Kd.S_reads' HO_24.out).2.2 x27_4 p368 q368
                                            obtain rfl : ad367 = ad368 := (by injection e368)
                                            obtain ⟨ce368, hce368, hMe368, hcc368⟩ := Kd.S_get HO_24.out [] x27_4 p368 (by first | exact q368 | exact of_decide_eq_true (by first | (with_reducible assumption) | assumption) | (have e_ := (Kd.S_reads' HO_24.out).1; omega))
                                            obtain ⟨ve368_0, rfl, ge368_0⟩ := hMe368
                                            have hv368_0 := hcc368 0 _ rfl
                                            rw [Nat.add_zero, show ((Kd.slice 2 (Kd.int .i64))).sz = 1 from rfl, Nat.mul_one] at hv368_0
                                            replace hv368_0 := Option.some.inj (hv368_0.symm.trans hx368_0)
                                            rw [hv368_0] at ge368_0
                                            have HL368_0 := Aside0.mk (show Kd.R (Kd.int .i64) 2 _ _ _ _ (rd_L3 t360 x27_4) from ge368_0)
                                            clear hv368_0 ge368_0
                                            clear hcc368 hce368
                                            have HR368_0 := Aside0.mk hi368_0
                                            have HC368_0 := Aside0.mk hl368_0
                                            clear hi368_0 hl368_0
                                            replace p368 := eq_true p368
                                            replace q368 := eq_true q368
                                            have ea_ := Option.some.inj (hx367_0.symm.trans hx368_0)
                                            injection ea_ with ea_ en_ ec_
                                            subst ea_
                                            subst ec_
                                            clear en_
                                            have p369 : 0 ≤ (0 : Int) := (by omega)
                                            have q369 : 0 < ((rd_L3 t360 x27_4).length : Int) := of_decide_eq_true (by first | (with_reducible assumption) | assumption)
                                            obtain ⟨ad369, e369, hx369_0⟩ := Kd.at_int (by repeat (first | (with_reducible exact HR368_0.out) | (with_reducible refine Kd.C_alloc ?_ _) | (with_reducible refine Kd.C_drewN ?_ _) | (with_reducible refine Kd.C_drew ?_) | exact HR368_0.out)) 0 p369 q369
                                            cases e369
                                            have qi369 : (0 < (rd_L3 t360 x27_4).length) = True := eq_true (by omega)
                                            (try rw [show ((0 : Int)).toNat = 0 from rfl] at hx369_0)
                                            (try rw [Addr.add_zero'] at hx369_0)
                                            replace p369 := eq_true p369
                                            replace q369 := eq_true q369
                                            have p370 : 0 ≤ (x27_4 : Int) := of_decide_eq_true (by first | (with_reducible assumption) | assumption)
                                            have q370 : x27_4 < (t360.length : Int) := of_decide_eq_true (by first | (with_reducible assumption) | assumption)
                                            obtain ⟨ad370, A370_0, c370_0, e370, hx370_0, hl370_0, hi370_0⟩ := at_L3 (Kd.S_reads' HO_24.out).2.2 x27_4 p370 q370
                                            obtain rfl : ad367 = ad370 := (by injection e370)
                                            obtain ⟨ce370, hce370, hMe370, hcc370⟩ := Kd.S_get HO_24.out [] x27_4 p370 (by first | exact q370 | exact of_decide_eq_true (by first | (with_reducible assumption) | assumption) | (have e_ := (Kd.S_reads' HO_24.out).1; omega))
                                            obtain ⟨ve370_0, rfl, ge370_0⟩ := hMe370
                                            have hv370_0 := hcc370 0 _ rfl
                                            rw [Nat.add_zero, show ((Kd.slice 2 (Kd.int .i64))).sz = 1 from rfl, Nat.mul_one] at hv370_0
                                            replace hv370_0 := Option.some.inj (hv370_0.symm.trans hx370_0)
                                            rw [hv370_0] at ge370_0
                                            have HL370_0 := Aside0.mk (show Kd.R (Kd.int .i64) 2 _ _ _ _ (rd_L3 t360 x27_4) from ge370_0)
                                            clear hv370_0 ge370_0
                                            clear hcc370 hce370
                                            have HR370_0 := Aside0.mk hi370_0
                                            have HC370_0 := Aside0.mk hl370_0
                                            clear hi370_0 hl370_0
                                            replace p370 := eq_true p370
                                            replace q370 := eq_true q370
                                            have ea_ := Option.some.inj (hx367_0.symm.trans hx370_0)
                                            injection ea_ with ea_ en_ ec_
                                            subst ea_
                                            subst ec_
                                            clear en_
                                            have p371 : 0 ≤ (0 : Int) := (by omega)
                                            have q371 : 0 < ((rd_L3 t360 x27_4).length : Int) := of_decide_eq_true (by first | (with_reducible assumption) | assumption)
                                            obtain ⟨ad371, e371, hx371_0⟩ := Kd.at_int (by repeat (first | (with_reducible exact HR370_0.out) | (with_reducible refine Kd.C_alloc ?_ _) | (with_reducible refine Kd.C_drewN ?_ _) | (with_reducible refine Kd.C_drew ?_) | exact HR370_0.out)) 0 p371 q371
                                            cases e371
                                            have qi371 : (0 < (rd_L3 t360 x27_4).length) = True := eq_true (by omega)
                                            (try rw [show ((0 : Int)).toNat = 0 from rfl] at hx371_0)
                                            (try rw [Addr.add_zero'] at hx371_0)
                                            replace p371 := eq_true p371
                                            replace q371 := eq_true q371
                                            go_wp2
                                            go_ret
                                            exact ⟨by first | rfl | (simp [errW_none, errW_some] <;> rfl) | (simp [*, errW_none, errW_some] <;> rfl), by repeat (first | (with_reducible first | exact HB.out | apply below_alloc | apply pw_below_drewN | apply below_drew1 | refine below_set ?_ GE334.out) | exact HB.out)⟩
                                          · rw [if_neg c71] at H
                                            have c71b0 : decide ((t324.length : Int) ≤ (rd (rd_L3 t360 x27_4) 0)) = false := decide_eq_false c71
                                            clear c71
                                            by_cases c73 : 1 < ((rd_L3 t360 x27_4).length : Int)
                                            · rw [if_pos c73] at H
                                              have c73b0 : decide (1 < ((rd_L3 t360 x27_4).length : Int)) = true := decide_eq_true c73
                                              have c73b1 : decide (1 < (rd_L3 t360 x27_4).length) = true := decide_eq_true (by omega)
                                              clear c73
                                              by_cases c74 : (rd (rd_L3 t360 x27_4) 1) < 1
                                              · rw [if_pos c74] at H
                                                have c74b0 : decide ((rd (rd_L3 t360 x27_4) 1) < 1) = true := decide_eq_true c74
                                                clear c74
                                                obtain rfl := Option.some.inj H
                                                obtain ⟨Ao75, co75, eo75⟩ := Kd.S_slice HO_24.out
                                                subst eo75
                                                have p367 : 0 ≤ (x27_4 : Int) := of_decide_eq_true (by first | (with_reducible assumption) | assumption)
                                                have q367 : x27_4 < (t360.length : Int) := of_decide_eq_true (by first | (with_reducible assumption) | assumption)
                                                obtain ⟨ad367, A367_0, c367_0, e367, hx367_0, hl367_0, hi367_0⟩ := at_L3 (Kd.S_reads' HO_24.out).2.2 x27_4 p367 q367
                                                cases e367
                                                obtain ⟨ce367, hce367, hMe367, hcc367⟩ := Kd.S_get HO_24.out [] x27_4 p367 (by first | exact q367 | exact of_decide_eq_true (by first | (with_reducible assumption) | assumption) | (have e_ := (Kd.S_reads' HO_24.out).1; omega))
                                                obtain ⟨ve367_0, rfl, ge367_0⟩ := hMe367
                                                have hv367_0 := hcc367 0 _ rfl
                                                rw [Nat.add_zero, show ((Kd.slice 2 (Kd.int .i64))).sz = 1 from rfl, Nat.mul_one] at hv367_0
                                                replace hv367_0 := Option.some.inj (hv367_0.symm.trans hx367_0)
                                                rw [hv367_0] at ge367_0
                                                have HL367_0 := Aside0.mk (show Kd.R (Kd.int .i64) 2 _ _ _ _ (rd_L3 t360 x27_4) from ge367_0)
                                                clear hv367_0 ge367_0
                                                clear hcc367 hce367
                                                have HR367_0 := Aside0.mk hi367_0
                                                have HC367_0 := Aside0.mk hl367_0
                                                clear hi367_0 hl367_0
                                                replace p367 := eq_true p367
                                                replace q367 := eq_true q367
                                                have p368 : 0 ≤ (x27_4 : Int) := of_decide_eq_true (by first | (with_reducible assumption) | assumption)
                                                have q368 : x27_4 < (t360.length : Int) := of_decide_eq_true (by first | (with_reducible assumption) | assumption)
                                                obtain ⟨ad368, A368_0, c368_0, e368, hx368_0, hl368_0, hi368_0⟩ := at_L3 (Kd.S_reads' HO_24.out).2.2 x27_4 p368 q368
                                                obtain rfl : ad367 = ad368 := (by injection e368)
                                                obtain ⟨ce368, hce368, hMe368, hcc368⟩ := Kd.S_get HO_24.out [] x27_4 p368 (by first | exact q368 | exact of_decide_eq_true (by first | (with_reducible assumption) | assumption) | (have e_ := (Kd.S_reads' HO_24.out).1; omega))
                                                obtain ⟨ve368_0, rfl, ge368_0⟩ := hMe368
                                                have hv368_0 := hcc368 0 _ rfl
                                                rw [Nat.add_zero, show ((Kd.slice 2 (Kd.int .i64))).sz = 1 from rfl, Nat.mul_one] at hv368_0
                                                replace hv368_0 := Option.some.inj (hv368_0.symm.trans hx368_0)
                                                rw [hv368_0] at ge368_0
                                                have HL368_0 := Aside0.mk (show Kd.R (Kd.int .i64) 2 _ _ _ _ (rd_L3 t360 x27_4) from ge368_0)
                                                clear hv368_0 ge368_0
                                                clear hcc368 hce368
                                                have HR368_0 := Aside0.mk hi368_0
                                                have HC368_0 := Aside0.mk hl368_0
                                                clear hi368_0 hl368_0
                                                replace p368 := eq_true p368
                                                replace q368 := eq_true q368
                                                have ea_ := Option.some.inj (hx367_0.symm.trans hx368_0)
                                                injection ea_ with ea_ en_ ec_
                                                subst ea_
                                                subst ec_
                                                clear en_
                                                have p369 : 0 ≤ (0 : Int) := (by omega)
                                                have q369 : 0 < ((rd_L3 t360 x27_4).length : Int) := of_decide_eq_true (by first | (with_reducible assumption) | assumption)
                                                obtain ⟨ad369, e369, hx369_0⟩ := Kd.at_int (by repeat (first | (with_reducible exact HR368_0.out) | (with_reducible refine Kd.C_alloc ?_ _) | (with_reducible refine Kd.C_drewN ?_ _) | (with_reducible refine Kd.C_drew ?_) | exact HR368_0.out)) 0 p369 q369
                                                cases e369
                                                have qi369 : (0 < (rd_L3 t360 x27_4).length) = True := eq_true (by omega)
                                                (try rw [show ((0 : Int)).toNat = 0 from rfl] at hx369_0)
                                                (try rw [Addr.add_zero'] at hx369_0)
                                                replace p369 := eq_true p369
                                                replace q369 := eq_true q369
                                                have p370 : 0 ≤ (x27_4 : Int) := of_decide_eq_true (by first | (with_reducible assumption) | assumption)
                                                have q370 : x27_4 < (t360.length : Int) := of_decide_eq_true (by first | (with_reducible assumption) | assumption)
                                                obtain ⟨ad370, A370_0, c370_0, e370, hx370_0, hl370_0, hi370_0⟩ := at_L3 (Kd.S_reads' HO_24.out).2.2 x27_4 p370 q370
                                                obtain rfl : ad367 = ad370 := (by injection e370)
                                                obtain ⟨ce370, hce370, hMe370, hcc370⟩ := Kd.S_get HO_24.out [] x27_4 p370 (by first | exact q370 | exact of_decide_eq_true (by first | (with_reducible assumption) | assumption) | (have e_ := (Kd.S_reads' HO_24.out).1; omega))
                                                obtain ⟨ve370_0, rfl, ge370_0⟩ := hMe370
                                                have hv370_0 := hcc370 0 _ rfl
                                                rw [Nat.add_zero, show ((Kd.slice 2 (Kd.int .i64))).sz = 1 from rfl, Nat.mul_one] at hv370_0
                                                replace hv370_0 := Option.some.inj (hv370_0.symm.trans hx370_0)
                                                rw [hv370_0] at ge370_0
                                                have HL370_0 := Aside0.mk (show Kd.R (Kd.int .i64) 2 _ _ _ _ (rd_L3 t360 x27_4) from ge370_0)
                                                clear hv370_0 ge370_0
                                                clear hcc370 hce370
                                                have HR370_0 := Aside0.mk hi370_0
                                                have HC370_0 := Aside0.mk hl370_0
                                                clear hi370_0 hl370_0
                                                replace p370 := eq_true p370
                                                replace q370 := eq_true q370
                                                have ea_ := Option.some.inj (hx367_0.symm.trans hx370_0)
                                                injection ea_ with ea_ en_ ec_
                                                subst ea_
                                                subst ec_
                                                clear en_
                                                have p371 : 0 ≤ (0 : Int) := (by omega)
                                                have q371 : 0 < ((rd_L3 t360 x27_4).length : Int) := of_decide_eq_true (by first | (with_reducible assumption) | assumption)
                                                obtain ⟨ad371, e371, hx371_0⟩ := Kd.at_int (by repeat (first | (with_reducible exact HR370_0.out) | (with_reducible refine Kd.C_alloc ?_ _) | (with_reducible refine Kd.C_drewN ?_ _) | (with_reducible refine Kd.C_drew ?_) | exact HR370_0.out)) 0 p371 q371
                                                cases e371
                                                have qi371 : (0 < (rd_L3 t360 x27_4).length) = True := eq_true (by omega)
                                                (try rw [show ((0 : Int)).toNat = 0 from rfl] at hx371_0)
                                                (try rw [Addr.add_zero'] at hx371_0)
                                                replace p371 := eq_true p371
                                                replace q371 := eq_true q371
                                                have p372 : 0 ≤ (x27_4 : Int) := of_decide_eq_true (by first | (with_reducible assumption) | assumption)
                                                have q372 : x27_4 < (t360.length : Int) := of_decide_eq_true (by first | (with_reducible assumption) | assumption)
                                                obtain ⟨ad372, A372_0, c372_0, e372, hx372_0, hl372_0, hi372_0⟩ := at_L3 (Kd.S_reads' HO_24.out).2.2 x27_4 p372 q372
                                                obtain rfl : ad367 = ad372 := (by injection e372)
                                                obtain ⟨ce372, hce372, hMe372, hcc372⟩ := Kd.S_get HO_24.out [] x27_4 p372 (by first | exact q372 | exact of_decide_eq_true (by first | (with_reducible assumption) | assumption) | (have e_ := (Kd.S_reads' HO_24.out).1; omega))
                                                obtain ⟨ve372_0, rfl, ge372_0⟩ := hMe372
                                                have hv372_0 := hcc372 0 _ rfl
                                                rw [Nat.add_zero, show ((Kd.slice 2 (Kd.int .i64))).sz = 1 from rfl, Nat.mul_one] at hv372_0
                                                replace hv372_0 := Option.some.inj (hv372_0.symm.trans hx372_0)
                                                rw [hv372_0] at ge372_0
                                                have HL372_0 := Aside0.mk (show Kd.R (Kd.int .i64) 2 _ _ _ _ (rd_L3 t360 x27_4) from ge372_0)
                                                clear hv372_0 ge372_0
                                                clear hcc372 hce372
                                                have HR372_0 := Aside0.mk hi372_0
                                                have HC372_0 := Aside0.mk hl372_0
                                                clear hi372_0 hl372_0
                                                replace p372 := eq_true p372
                                                replace q372 := eq_true q372
                                                have ea_ := Option.some.inj (hx367_0.symm.trans hx372_0)
                                                injection ea_ with ea_ en_ ec_
                                                subst ea_
                                                subst ec_
                                                clear en_
                                                have p373 : 0 ≤ (1 : Int) := (by omega)
                                                have q373 : 1 < ((rd_L3 t360 x27_4).length : Int) := of_decide_eq_true (by first | (with_reducible assumption) | assumption)
                                                obtain ⟨ad373, e373, hx373_0⟩ := Kd.at_int (by repeat (first | (with_reducible exact HR372_0.out) | (with_reducible refine Kd.C_alloc ?_ _) | (with_reducible refine Kd.C_drewN ?_ _) | (with_reducible refine Kd.C_drew ?_) | exact HR372_0.out)) 1 p373 q373
                                                cases e373
                                                (try simp only [show (1 : Int).toNat = 1 from rfl, Nat.reduceMul, Nat.reduceEqDiff, Go.Addr.add, ↓reduceIte] at hx373_0)
                                                have qi373 : (1 < (rd_L3 t360 x27_4).length) = True := eq_true (by omega)
                                                (try rw [show ((1 : Int)).toNat = 1 from rfl] at hx373_0)
                                                replace p373 := eq_true p373
                                                replace q373 := eq_true q373
                                                go_wp2
                                                go_ret
                                                exact ⟨by first | rfl | (simp [errW_none, errW_some] <;> rfl) | (simp [*, errW_none, errW_some] <;> rfl), by repeat (first | (with_reducible first | exact HB.out | apply below_alloc | apply pw_below_drewN | apply below_drew1 | refine below_set ?_ GE334.out) | exact HB.out)⟩
                                              · rw [if_neg c74] at H
                                                have c74b0 : decide ((rd (rd_L3 t360 x27_4) 1) < 1) = false := decide_eq_false c74
                                                clear c74
                                                by_cases c76 : 0 ≤ (rd (rd_L3 t360 x27_4) 0)
                                                · rw [if_pos c76] at H
                                                  have c76b0 : decide (0 ≤ (rd (rd_L3 t360 x27_4) 0)) = true := decide_eq_true c76
                                                  clear c76
                                                  by_cases c77 : (rd (rd_L3 t360 x27_4) 0) < (x26_4.length : Int)
                                                  · rw [if_pos c77] at H
                                                    have c77b0 : decide ((rd (rd_L3 t360 x27_4) 0) < (x26_4.length : Int)) = true := decide_eq_true c77
                                                    clear c77
                                                    obtain ⟨y379, hy379⟩ : ∃ y_ : List Int, y_ = (x26_4.set ((rd (rd_L3 t360 x27_4) 0) : Int).toNat (wrap64 ((rd x26_4 (rd (rd_L3 t360 x27_4) 0)) + (rd (rd_L3 t360 x27_4) 1)))) := ⟨_, rfl⟩
                                                    replace H : (laws_FnBars.l1 k4 t324 t360 y379 (wrap64 (x27_4 + 1))) = some r := by first | (rw [hy379]; with_reducible exact H) | (have H2_ := (Option.bind_some _ _).symm.trans H; rw [hy379]; with_reducible exact H2_) | (have H2_ := (Option.bind_some _ _).symm.trans H; with_reducible exact H2_) | with_reducible exact H | (rw [hy379]; exact H) | exact H
                                                    have Ny379 := Aside0.mk hy379
                                                    clear hy379
                                                    have H' := Aside0.mk H
                                                    clear H
                                                    obtain ⟨Ao79, co79, eo79⟩ := Kd.S_slice HO_24.out
                                                    subst eo79
                                                    have p367 : 0 ≤ (x27_4 : Int) := of_decide_eq_true (by first | (with_reducible assumption) | assumption)
                                                    have q367 : x27_4 < (t360.length : Int) := of_decide_eq_true (by first | (with_reducible assumption) | assumption)
                                                    obtain ⟨ad367, A367_0, c367_0, e367, hx367_0, hl367_0, hi367_0⟩ := at_L3 (Kd.S_reads' HO_24.out).2.2 x27_4 p367 q367
                                                    cases e367
                                                    obtain ⟨ce367, hce367, hMe367, hcc367⟩ := Kd.S_get HO_24.out [] x27_4 p367 (by first | exact q367 | exact of_decide_eq_true (by first | (with_reducible assumption) | assumption) | (have e_ := (Kd.S_reads' HO_24.out).1; omega))
                                                    obtain ⟨ve367_0, rfl, ge367_0⟩ := hMe367
                                                    have hv367_0 := hcc367 0 _ rfl
                                                    rw [Nat.add_zero, show ((Kd.slice 2 (Kd.int .i64))).sz = 1 from rfl, Nat.mul_one] at hv367_0
                                                    replace hv367_0 := Option.some.inj (hv367_0.symm.trans hx367_0)
                                                    rw [hv367_0] at ge367_0
                                                    have HL367_0 := Aside0.mk (show Kd.R (Kd.int .i64) 2 _ _ _ _ (rd_L3 t360 x27_4) from ge367_0)
                                                    clear hv367_0 ge367_0
                                                    clear hcc367 hce367
                                                    have HR367_0 := Aside0.mk hi367_0
                                                    have HC367_0 := Aside0.mk hl367_0
                                                    clear hi367_0 hl367_0
                                                    replace p367 := eq_true p367
                                                    replace q367 := eq_true q367
                                                    have p368 : 0 ≤ (x27_4 : Int) := of_decide_eq_true (by first | (with_reducible assumption) | assumption)
                                                    have q368 : x27_4 < (t360.length : Int) := of_decide_eq_true (by first | (with_reducible assumption) | assumption)
                                                    obtain ⟨ad368, A368_0, c368_0, e368, hx368_0, hl368_0, hi368_0⟩ := at_L3 (Kd.S_reads' HO_24.out).2.2 x27_4 p368 q368
                                                    obtain rfl : ad367 = ad368 := (by injection e368)
                                                    obtain ⟨ce368, hce368, hMe368, hcc368⟩ := Kd.S_get HO_24.out [] x27_4 p368 (by first | exact q368 | exact of_decide_eq_true (by first | (with_reducible assumption) | assumption) | (have e_ := (Kd.S_reads' HO_24.out).1; omega))
                                                    obtain ⟨ve368_0, rfl, ge368_0⟩ := hMe368
                                                    have hv368_0 := hcc368 0 _ rfl
                                                    rw [Nat.add_zero, show ((Kd.slice 2 (Kd.int .i64))).sz = 1 from rfl, Nat.mul_one] at hv368_0
                                                    replace hv368_0 := Option.some.inj (hv368_0.symm.trans hx368_0)
                                                    rw [hv368_0] at ge368_0
                                                    have HL368_0 := Aside0.mk (show Kd.R (Kd.int .i64) 2 _ _ _ _ (rd_L3 t360 x27_4) from ge368_0)
                                                    clear hv368_0 ge368_0
                                                    clear hcc368 hce368
                                                    have HR368_0 := Aside0.mk hi368_0
                                                    have HC368_0 := Aside0.mk hl368_0
                                                    clear hi368_0 hl368_0
                                                    replace p368 := eq_true p368
                                                    replace q368 := eq_true q368
                                                    have ea_ := Option.some.inj (hx367_0.symm.trans hx368_0)
                                                    injection ea_ with ea_ en_ ec_
                                                    subst ea_
                                                    subst ec_
                                                    clear en_
                                                    have p369 : 0 ≤ (0 : Int) := (by omega)
                                                    have q369 : 0 < ((rd_L3 t360 x27_4).length : Int) := of_decide_eq_true (by first | (with_reducible assumption) | assumption)
                                                    obtain ⟨ad369, e369, hx369_0⟩ := Kd.at_int (by repeat (first | (with_reducible exact HR368_0.out) | (with_reducible refine Kd.C_alloc ?_ _) | (with_reducible refine Kd.C_drewN ?_ _) | (with_reducible refine Kd.C_drew ?_) | exact HR368_0.out)) 0 p369 q369
                                                    cases e369
                                                    have qi369 : (0 < (rd_L3 t360 x27_4).length) = True := eq_true (by omega)
                                                    (try rw [show ((0 : Int)).toNat = 0 from rfl] at hx369_0)
                                                    (try rw [Addr.add_zero'] at hx369_0)
                                                    replace p369 := eq_true p369
                                                    replace q369 := eq_true q369
                                                    have p370 : 0 ≤ (x27_4 : Int) := of_decide_eq_true (by first | (with_reducible assumption) | assumption)
                                                    have q370 : x27_4 < (t360.length : Int) := of_decide_eq_true (by first | (with_reducible assumption) | assumption)
                                                    obtain ⟨ad370, A370_0, c370_0, e370, hx370_0, hl370_0, hi370_0⟩ := at_L3 (Kd.S_reads' HO_24.out).2.2 x27_4 p370 q370
                                                    obtain rfl : ad367 = ad370 := (by injection e370)
                                                    obtain ⟨ce370, hce370, hMe370, hcc370⟩ := Kd.S_get HO_24.out [] x27_4 p370 (by first | exact q370 | exact of_decide_eq_true (by first | (with_reducible assumption) | assumption) | (have e_ := (Kd.S_reads' HO_24.out).1; omega))
                                                    obtain ⟨ve370_0, rfl, ge370_0⟩ := hMe370
                                                    have hv370_0 := hcc370 0 _ rfl
                                                    rw [Nat.add_zero, show ((Kd.slice 2 (Kd.int .i64))).sz = 1 from rfl, Nat.mul_one] at hv370_0
                                                    replace hv370_0 := Option.some.inj (hv370_0.symm.trans hx370_0)
                                                    rw [hv370_0] at ge370_0
                                                    have HL370_0 := Aside0.mk (show Kd.R (Kd.int .i64) 2 _ _ _ _ (rd_L3 t360 x27_4) from ge370_0)
                                                    clear hv370_0 ge370_0
                                                    clear hcc370 hce370
                                                    have HR370_0 := Aside0.mk hi370_0
                                                    have HC370_0 := Aside0.mk hl370_0
                                                    clear hi370_0 hl370_0
                                                    replace p370 := eq_true p370
                                                    replace q370 := eq_true q370
                                                    have ea_ := Option.some.inj (hx367_0.symm.trans hx370_0)
                                                    injection ea_ with ea_ en_ ec_
                                                    subst ea_
                                                    subst ec_
                                                    clear en_
                                                    have p371 : 0 ≤ (0 : Int) := (by omega)
                                                    have q371 : 0 < ((rd_L3 t360 x27_4).length : Int) := of_decide_eq_true (by first | (with_reducible assumption) | assumption)
                                                    obtain ⟨ad371, e371, hx371_0⟩ := Kd.at_int (by repeat (first | (with_reducible exact HR370_0.out) | (with_reducible refine Kd.C_alloc ?_ _) | (with_reducible refine Kd.C_drewN ?_ _) | (with_reducible refine Kd.C_drew ?_) | exact HR370_0.out)) 0 p371 q371
                                                    cases e371
                                                    have qi371 : (0 < (rd_L3 t360 x27_4).length) = True := eq_true (by omega)
                                                    (try rw [show ((0 : Int)).toNat = 0 from rfl] at hx371_0)
                                                    (try rw [Addr.add_zero'] at hx371_0)
                                                    replace p371 := eq_true p371
                                                    replace q371 := eq_true q371
                                                    have p372 : 0 ≤ (x27_4 : Int) := of_decide_eq_true (by first | (with_reducible assumption) | assumption)
                                                    have q372 : x27_4 < (t360.length : Int) := of_decide_eq_true (by first | (with_reducible assumption) | assumption)
                                                    obtain ⟨ad372, A372_0, c372_0, e372, hx372_0, hl372_0, hi372_0⟩ := at_L3 (Kd.S_reads' HO_24.out).2.2 x27_4 p372 q372
                                                    obtain rfl : ad367 = ad372 := (by injection e372)
                                                    obtain ⟨ce372, hce372, hMe372, hcc372⟩ := Kd.S_get HO_24.out [] x27_4 p372 (by first | exact q372 | exact of_decide_eq_true (by first | (with_reducible assumption) | assumption) | (have e_ := (Kd.S_reads' HO_24.out).1; omega))
                                                    obtain ⟨ve372_0, rfl, ge372_0⟩ := hMe372
                                                    have hv372_0 := hcc372 0 _ rfl
                                                    rw [Nat.add_zero, show ((Kd.slice 2 (Kd.int .i64))).sz = 1 from rfl, Nat.mul_one] at hv372_0
                                                    replace hv372_0 := Option.some.inj (hv372_0.symm.trans hx372_0)
                                                    rw [hv372_0] at ge372_0
                                                    have HL372_0 := Aside0.mk (show Kd.R (Kd.int .i64) 2 _ _ _ _ (rd_L3 t360 x27_4) from ge372_0)
                                                    clear hv372_0 ge372_0
                                                    clear hcc372 hce372
                                                    have HR372_0 := Aside0.mk hi372_0
                                                    have HC372_0 := Aside0.mk hl372_0
                                                    clear hi372_0 hl372_0
                                                    replace p372 := eq_true p372
                                                    replace q372 := eq_true q372
                                                    have ea_ := Option.some.inj (hx367_0.symm.trans hx372_0)
                                                    injection ea_ with ea_ en_ ec_
                                                    subst ea_
                                                    subst ec_
                                                    clear en_
                                                    have p373 : 0 ≤ (1 : Int) := (by omega)
                                                    have q373 : 1 < ((rd_L3 t360 x27_4).length : Int) := of_decide_eq_true (by first | (with_reducible assumption) | assumption)
                                                    obtain ⟨ad373, e373, hx373_0⟩ := Kd.at_int (by repeat (first | (with_reducible exact HR372_0.out) | (with_reducible refine Kd.C_alloc ?_ _) | (with_reducible refine Kd.C_drewN ?_ _) | (with_reducible refine Kd.C_drew ?_) | exact HR372_0.out)) 1 p373 q373
                                                    cases e373
                                                    (try simp only [show (1 : Int).toNat = 1 from rfl, Nat.reduceMul, Nat.reduceEqDiff, Go.Addr.add, ↓reduceIte] at hx373_0)
                                                    have qi373 : (1 < (rd_L3 t360 x27_4).length) = True := eq_true (by omega)
                                                    (try rw [show ((1 : Int)).toNat = 1 from rfl] at hx373_0)
                                                    replace p373 := eq_true p373
                                                    replace q373 := eq_true q373
                                                    try go_wp2
                                                    have n0_ := Aside0.mk (Kd.R_drew HO_5.out)
                                                    have n1_ := Aside0.mk (Kd.S_drew HO_24.out)
                                                    have n2_ := Aside0.mk (Kd.R_drew HO_26.out)
                                                    have n3_ := Aside0.mk (Kd.R_drew HO_335001.out)
                                                    have n4_ := Aside0.mk (Kd.R_drew HO_335002.out)
                                                    have n5_ := Aside0.mk (Kd.R_drew HL367_0.out)
                                                    have n6_ := Aside0.mk (Kd.R_drew HL368_0.out)
                                                    have n7_ := Aside0.mk (Kd.R_drew HL370_0.out)
                                                    have n8_ := Aside0.mk (Kd.R_drew HL372_0.out)
                                                    have n9_ := Aside0.mk (blk_drew BK334.out)
                                                    have n10_ := Aside0.mk (Kd.C_drew HR367_0.out)
                                                    have n11_ := Aside0.mk (Kd.C_drew HR368_0.out)
                                                    have n12_ := Aside0.mk (Kd.C_drew HR370_0.out)
                                                    have n13_ := Aside0.mk (Kd.C_drew HR372_0.out)
                                                    have n14_ := Aside0.mk (below_drew1 HB.out)
                                                    clear HO_5
                                                    clear HO_24
                                                    clear HO_26
                                                    clear HO_335001
                                                    clear HO_335002
                                                    clear HL367_0
                                                    clear HL368_0
                                                    clear HL370_0
                                                    clear HL372_0
                                                    clear BK334
                                                    clear HR367_0
                                                    clear HR368_0
                                                    clear HR370_0
                                                    clear HR372_0
                                                    clear HB
                                                    have HO_5 := n0_
                                                    have HO_24 := n1_
                                                    have HO_26 := n2_
                                                    have HO_335001 := n3_
                                                    have HO_335002 := n4_
                                                    have HL367_0 := n5_
                                                    have HL368_0 := n6_
                                                    have HL370_0 := n7_
                                                    have HL372_0 := n8_
                                                    have BK334 := n9_
                                                    have HR367_0 := n10_
                                                    have HR368_0 := n11_
                                                    have HR370_0 := n12_
                                                    have HR372_0 := n13_
                                                    have HB := n14_
                                                    clear n0_ n1_ n2_ n3_ n4_ n5_ n6_ n7_ n8_ n9_ n10_ n11_ n12_ n13_ n14_
                                                    have p374 : 0 ≤ (x27_4 : Int) := of_decide_eq_true (by first | (with_reducible assumption) | assumption)
                                                    have q374 : x27_4 < (t360.length : Int) := of_decide_eq_true (by first | (with_reducible assumption) | assumption)
                                                    obtain ⟨ad374, A374_0, c374_0, e374, hx374_0, hl374_0, hi374_0⟩ := at_L3 (Kd.S_reads' HO_24.out).2.2 x27_4 p374 q374
                                                    obtain rfl : ad367 = ad374 := (by injection e374)
                                                    obtain ⟨ce374, hce374, hMe374, hcc374⟩ := Kd.S_get HO_24.out [] x27_4 p374 (by first | exact q374 | exact of_decide_eq_true (by first | (with_reducible assumption) | assumption) | (have e_ := (Kd.S_reads' HO_24.out).1; omega))
                                                    obtain ⟨ve374_0, rfl, ge374_0⟩ := hMe374
                                                    have hv374_0 := hcc374 0 _ rfl
                                                    rw [Nat.add_zero, show ((Kd.slice 2 (Kd.int .i64))).sz = 1 from rfl, Nat.mul_one] at hv374_0
                                                    replace hv374_0 := Option.some.inj (hv374_0.symm.trans hx374_0)
                                                    rw [hv374_0] at ge374_0
                                                    have HL374_0 := Aside0.mk (show Kd.R (Kd.int .i64) 2 _ _ _ _ (rd_L3 t360 x27_4) from ge374_0)
                                                    clear hv374_0 ge374_0
                                                    clear hcc374 hce374
                                                    have HR374_0 := Aside0.mk hi374_0
                                                    have HC374_0 := Aside0.mk hl374_0
                                                    clear hi374_0 hl374_0
                                                    replace p374 := eq_true p374
                                                    replace q374 := eq_true q374
                                                    have p375 : 0 ≤ (0 : Int) := (by omega)
                                                    have q375 : 0 < ((rd_L3 t360 x27_4).length : Int) := of_decide_eq_true (by first | (with_reducible assumption) | assumption)
                                                    obtain ⟨ad375, e375, hx375_0⟩ := Kd.at_int (by repeat (first | (with_reducible exact HR374_0.out) | (with_reducible refine Kd.C_alloc ?_ _) | (with_reducible refine Kd.C_drewN ?_ _) | (with_reducible refine Kd.C_drew ?_) | exact HR374_0.out)) 0 p375 q375
                                                    cases e375
                                                    have qi375 : (0 < (rd_L3 t360 x27_4).length) = True := eq_true (by omega)
                                                    (try rw [show ((0 : Int)).toNat = 0 from rfl] at hx375_0)
                                                    (try rw [Addr.add_zero'] at hx375_0)
                                                    replace p375 := eq_true p375
                                                    replace q375 := eq_true q375
                                                    obtain ⟨Ao81, co81, eo81⟩ := Kd.R_slice HO_26.out
                                                    (first | subst eo81 | (injection eo81 with f1_ f2_ f3_; have f4_ := f1_.symm; have f5_ := f3_.symm; clear f1_ f2_ f3_; subst f4_; subst f5_))
                                                    have p376 : 0 ≤ ((rd (rd_L3 t360 x27_4) 0) : Int) := of_decide_eq_true (by first | (with_reducible assumption) | assumption)
                                                    have q376 : (rd (rd_L3 t360 x27_4) 0) < (x26_4.length : Int) := of_decide_eq_true (by first | (with_reducible assumption) | assumption)
                                                    obtain ⟨ad376, e376, hx376_0⟩ := Kd.at_int (Kd.R_reads' HO_26.out).2.2 (rd (rd_L3 t360 x27_4) 0) p376 q376
                                                    cases e376
                                                    replace p376 := eq_true p376
                                                    replace q376 := eq_true q376
                                                    have p377 : 0 ≤ (x27_4 : Int) := of_decide_eq_true (by first | (with_reducible assumption) | assumption)
                                                    have q377 : x27_4 < (t360.length : Int) := of_decide_eq_true (by first | (with_reducible assumption) | assumption)
                                                    obtain ⟨ad377, A377_0, c377_0, e377, hx377_0, hl377_0, hi377_0⟩ := at_L3 (Kd.S_reads' HO_24.out).2.2 x27_4 p377 q377
                                                    obtain rfl : ad367 = ad377 := (by injection e377)
                                                    obtain ⟨ce377, hce377, hMe377, hcc377⟩ := Kd.S_get HO_24.out [] x27_4 p377 (by first | exact q377 | exact of_decide_eq_true (by first | (with_reducible assumption) | assumption) | (have e_ := (Kd.S_reads' HO_24.out).1; omega))
                                                    obtain ⟨ve377_0, rfl, ge377_0⟩ := hMe377
                                                    have hv377_0 := hcc377 0 _ rfl
                                                    rw [Nat.add_zero, show ((Kd.slice 2 (Kd.int .i64))).sz = 1 from rfl, Nat.mul_one] at hv377_0
                                                    replace hv377_0 := Option.some.inj (hv377_0.symm.trans hx377_0)
                                                    rw [hv377_0] at ge377_0
                                                    have HL377_0 := Aside0.mk (show Kd.R (Kd.int .i64) 2 _ _ _ _ (rd_L3 t360 x27_4) from ge377_0)
                                                    clear hv377_0 ge377_0
                                                    clear hcc377 hce377
                                                    have HR377_0 := Aside0.mk hi377_0
                                                    have HC377_0 := Aside0.mk hl377_0
                                                    clear hi377_0 hl377_0
                                                    replace p377 := eq_true p377
                                                    replace q377 := eq_true q377
                                                    have ea_ := Option.some.inj (hx374_0.symm.trans hx377_0)
                                                    injection ea_ with ea_ en_ ec_
                                                    subst ea_
                                                    subst ec_
                                                    clear en_
                                                    have p378 : 0 ≤ (1 : Int) := (by omega)
                                                    have q378 : 1 < ((rd_L3 t360 x27_4).length : Int) := of_decide_eq_true (by first | (with_reducible assumption) | assumption)
                                                    obtain ⟨ad378, e378, hx378_0⟩ := Kd.at_int (by repeat (first | (with_reducible exact HR377_0.out) | (with_reducible refine Kd.C_alloc ?_ _) | (with_reducible refine Kd.C_drewN ?_ _) | (with_reducible refine Kd.C_drew ?_) | exact HR377_0.out)) 1 p378 q378
                                                    cases e378
                                                    (try simp only [show (1 : Int).toNat = 1 from rfl, Nat.reduceMul, Nat.reduceEqDiff, Go.Addr.add, ↓reduceIte] at hx378_0)
                                                    have qi378 : (1 < (rd_L3 t360 x27_4).length) = True := eq_true (by omega)
                                                    (try rw [show ((1 : Int)).toNat = 1 from rfl] at hx378_0)
                                                    replace p378 := eq_true p378
                                                    replace q378 := eq_true q378
                                                    have p78 : 0 ≤ ((rd (rd_L3 t360 x27_4) 0) : Int) := of_decide_eq_true (by first | (with_reducible assumption) | assumption)
                                                    have q78 : ((rd (rd_L3 t360 x27_4) 0) : Int) < ((x26_4.length : Int) : Int) := of_decide_eq_true (by first | (with_reducible assumption) | assumption)
                                                    obtain ⟨go78, co78, eo78, gb78, gl78, cl78, HG78⟩ := Kd.R_form HO_26.out (by omega)
                                                    (first | cases eo78 | (injection eo78 with ea_ en_ ec_; (first | subst ea_ | (injection ea_ with ea_; subst ea_)); subst ec_; clear en_))
                                                    have GB78 := Aside0.mk gb78
                                                    have GG78 := Aside0.mk HG78
                                                    clear gb78 gl78 HG78
                                                    (first | simp only [add_plain] at hx376_0 | skip)
                                                    obtain ⟨hx78_0, hf78_0⟩ := Kd.R_celln 0 HO_26.out ((rd (rd_L3 t360 x27_4) 0) : Int) p78 q78
                                                    replace p78 := eq_true p78
                                                    replace q78 := eq_true q78
                                                    have HP82 := Kd.R_putn HO_26.out ((rd (rd_L3 t360 x27_4) 0) : Int) (wrap64 ((rd x26_4 (rd (rd_L3 t360 x27_4) 0)) + (rd (rd_L3 t360 x27_4) 1)))
                                                    rw [← Ny379.out] at HP82
                                                    have HQ82 := Aside0.mk HP82
                                                    clear HP82
                                                    refine start_ (n := 18) (S := fun w' => w'.cell? (ad367.add (x27_4).toNat) = some (.slice (some ad375) (rd_L3 t360 x27_4).length c374_0) ∧ w'.cell? ad375 = some (.int .i64 (rd (rd_L3 t360 x27_4) 0)) ∧ w'.cell? ⟨go78, ((rd (rd_L3 t360 x27_4) 0)).toNat, none⟩ = some (.int .i64 (rd x26_4 (rd (rd_L3 t360 x27_4) 0))) ∧ w'.cell? (ad367.add (x27_4).toNat) = some (.slice (some ad375) (rd_L3 t360 x27_4).length c374_0) ∧ w'.cell? ⟨ad375.block, ad375.off + 1, none⟩ = some (.int .i64 (rd (rd_L3 t360 x27_4) 1))) (ds := [17]) #[false, false, false, false, false, false, false, false, false, false, false, false, false, false, false, false, false, false] (by kernel_rfl) rfl rfl ⟨hx374_0, hx375_0, hx376_0, hx377_0, hx378_0⟩ (fun hHeld => ?_); refine with_tabW laws_FnBars.tab33 laws_FnBars.bits33 (fun HT_ HW_ => ?_)
                                                    generalize wr.drew = w80 at HO_5 HO_24 HO_26 HO_335001 HO_335002 HL367_0 HL368_0 HL370_0 HL372_0 BK334 HR367_0 HR368_0 HR370_0 HR372_0 HB GG78 HL374_0 HL377_0 HQ82 HR374_0 HR377_0 hf78_0 hx374_0 hx375_0 hx376_0 hx377_0 hx378_0 hx78_0 hHeld ⊢
                                                    refine pure_ (i := 0) (N := some 219) (v := ?_) (a' := ?_) #[true, false, false, false, false, false, false, false, false, false, false, false, false, false, false, false, false, false] rfl rfl (any_of HT_.out (by kernel_rfl)) (fun _ _ _ h => h) (Or.inl ⟨by rfl, ?_⟩) ?_ ?_
                                                    rotate_left
                                                    · intro w'
                                                      go_simp
                                                      with_reducible rfl
                                                    rotate_left
                                                    · simp only [Act.put, List.setIfInBounds_toArray, List.set_cons_zero, List.set_cons_succ, i64_w, i32_w]
                                                      rfl
                                                    refine pure_ (i := 1) (N := some 220) (v := ?_) (a' := ?_) #[true, true, false, false, false, false, false, false, false, false, false, false, false, false, false, false, false, false] rfl rfl (any_of HT_.out (by kernel_rfl)) (fun _ _ _ h => h) (Or.inl ⟨by rfl, ?_⟩) ?_ ?_
                                                    rotate_left
                                                    · intro w'
                                                      go_simp
                                                      with_reducible rfl
                                                    rotate_left
                                                    · simp only [Act.put, List.setIfInBounds_toArray, List.set_cons_zero, List.set_cons_succ, i64_w, i32_w]
                                                      rfl
                                                    refine pure_ (i := 2) (N := some 221) (v := ?_) (a' := ?_) #[true, true, true, false, false, false, false, false, false, false, false, false, false, false, false, false, false, false] rfl rfl (any_of HT_.out (by kernel_rfl)) (fun _ _ _ h => h) (Or.inl ⟨by rfl, ?_⟩) ?_ ?_
                                                    rotate_left
                                                    · intro w'
                                                      go_simp
                                                      with_reducible rfl
                                                    rotate_left
                                                    · simp only [Act.put, List.setIfInBounds_toArray, List.set_cons_zero, List.set_cons_succ, i64_w, i32_w]
                                                      rfl
                                                    refine pure_ (i := 3) (N := some 222) (v := ?_) (a' := ?_) #[true, true, true, true, false, false, false, false, false, false, false, false, false, false, false, false, false, false] rfl rfl (any_of HT_.out (by kernel_rfl)) (fun _ _ _ h => h) (Or.inl ⟨by rfl, ?_⟩) ?_ ?_
                                                    rotate_left
                                                    · intro w'
                                                      go_simp
                                                      with_reducible rfl
                                                    rotate_left
                                                    · simp only [Act.put, List.setIfInBounds_toArray, List.set_cons_zero, List.set_cons_succ, i64_w, i32_w]
                                                      rfl
                                                    refine pure_ (i := 9) (N := some 228) (v := ?_) (a' := ?_) #[true, true, true, true, false, false, false, false, false, true, false, false, false, false, false, false, false, false] rfl rfl (any_of HT_.out (by kernel_rfl)) (fun _ _ _ h => h) (Or.inl ⟨by rfl, ?_⟩) ?_ ?_
                                                    rotate_left
                                                    · intro w'
                                                      go_simp
                                                      with_reducible rfl
                                                    rotate_left
                                                    · simp only [Act.put, List.setIfInBounds_toArray, List.set_cons_zero, List.set_cons_succ, i64_w, i32_w]
                                                      rfl
                                                    refine pure_ (i := 10) (N := some 229) (v := ?_) (a' := ?_) #[true, true, true, true, false, false, false, false, false, true, true, false, false, false, false, false, false, false] rfl rfl (any_of HT_.out (by kernel_rfl)) (fun _ _ _ h => h) (Or.inl ⟨by rfl, ?_⟩) ?_ ?_
                                                    rotate_left
                                                    · intro w'
                                                      go_simp
                                                      with_reducible rfl
                                                    rotate_left
                                                    · simp only [Act.put, List.setIfInBounds_toArray, List.set_cons_zero, List.set_cons_succ, i64_w, i32_w]
                                                      rfl
                                                    refine pure_ (i := 11) (N := some 230) (v := ?_) (a' := ?_) #[true, true, true, true, false, false, false, false, false, true, true, true, false, false, false, false, false, false] rfl rfl (any_of HT_.out (by kernel_rfl)) (fun _ _ _ h => h) (Or.inl ⟨by rfl, ?_⟩) ?_ ?_
                                                    rotate_left
                                                    · intro w'
                                                      go_simp
                                                      with_reducible rfl
                                                    rotate_left
                                                    · simp only [Act.put, List.setIfInBounds_toArray, List.set_cons_zero, List.set_cons_succ, i64_w, i32_w]
                                                      rfl
                                                    refine take_ (i := 4) (N := some 223) (v := ?_) (a' := ?_) #[true, true, true, true, true, false, false, false, false, true, true, true, false, false, false, false, false, false] rfl rfl (take_ofW HT_.out HW_.out (by kernel_rfl)) (fun _ _ _ h => h) (Or.inl ⟨by rfl, ?_⟩) hHeld ?_ ?_
                                                    rotate_left
                                                    · rintro w' ⟨s0, s1, s2, s3, s4⟩
                                                      go_simp
                                                      with_reducible rfl
                                                    rotate_left
                                                    · simp only [Act.put, List.setIfInBounds_toArray, List.set_cons_zero, List.set_cons_succ, i64_w, i32_w]
                                                      rfl
                                                    refine pure_ (i := 5) (N := some 224) (v := ?_) (a' := ?_) #[true, true, true, true, true, true, false, false, false, true, true, true, false, false, false, false, false, false] rfl rfl (any_of HT_.out (by kernel_rfl)) (fun _ _ _ h => h) (Or.inl ⟨by rfl, ?_⟩) ?_ ?_
                                                    rotate_left
                                                    · intro w'
                                                      go_simp
                                                      with_reducible rfl
                                                    rotate_left
                                                    · simp only [Act.put, List.setIfInBounds_toArray, List.set_cons_zero, List.set_cons_succ, i64_w, i32_w]
                                                      rfl
                                                    refine take_ (i := 6) (N := some 225) (v := ?_) (a' := ?_) #[true, true, true, true, true, true, true, false, false, true, true, true, false, false, false, false, false, false] rfl rfl (take_ofW HT_.out HW_.out (by kernel_rfl)) (fun _ _ _ h => h) (Or.inl ⟨by rfl, ?_⟩) hHeld ?_ ?_
                                                    rotate_left
                                                    · rintro w' ⟨s0, s1, s2, s3, s4⟩
                                                      go_simp
                                                      with_reducible rfl
                                                    rotate_left
                                                    · simp only [Act.put, List.setIfInBounds_toArray, List.set_cons_zero, List.set_cons_succ, i64_w, i32_w]
                                                      rfl
                                                    refine pure_ (i := 7) (N := some 226) (v := ?_) (a' := ?_) #[true, true, true, true, true, true, true, true, false, true, true, true, false, false, false, false, false, false] rfl rfl (any_of HT_.out (by kernel_rfl)) (fun _ _ _ h => h) (Or.inl ⟨by rfl, ?_⟩) ?_ ?_
                                                    rotate_left
                                                    · intro w'
                                                      go_simp
                                                      with_reducible rfl
                                                    rotate_left
                                                    · simp only [Act.put, List.setIfInBounds_toArray, List.set_cons_zero, List.set_cons_succ, i64_w, i32_w]
                                                      rfl
                                                    refine take_ (i := 8) (N := some 227) (v := ?_) (a' := ?_) #[true, true, true, true, true, true, true, true, true, true, true, true, false, false, false, false, false, false] rfl rfl (take_ofW HT_.out HW_.out (by kernel_rfl)) (fun _ _ _ h => h) (Or.inl ⟨by rfl, ?_⟩) hHeld ?_ ?_
                                                    rotate_left
                                                    · rintro w' ⟨s0, s1, s2, s3, s4⟩
                                                      go_simp
                                                      with_reducible rfl
                                                    rotate_left
                                                    · simp only [Act.put, List.setIfInBounds_toArray, List.set_cons_zero, List.set_cons_succ, i64_w, i32_w]
                                                      rfl
                                                    refine take_ (i := 12) (N := some 231) (v := ?_) (a' := ?_) #[true, true, true, true, true, true, true, true, true, true, true, true, true, false, false, false, false, false] rfl rfl (take_ofW HT_.out HW_.out (by kernel_rfl)) (fun _ _ _ h => h) (Or.inl ⟨by rfl, ?_⟩) hHeld ?_ ?_
                                                    rotate_left
                                                    · rintro w' ⟨s0, s1, s2, s3, s4⟩
                                                      go_simp
                                                      with_reducible rfl
                                                    rotate_left
                                                    · simp only [Act.put, List.setIfInBounds_toArray, List.set_cons_zero, List.set_cons_succ, i64_w, i32_w]
                                                      rfl
                                                    refine pure_ (i := 13) (N := some 232) (v := ?_) (a' := ?_) #[true, true, true, true, true, true, true, true, true, true, true, true, true, true, false, false, false, false] rfl rfl (any_of HT_.out (by kernel_rfl)) (fun _ _ _ h => h) (Or.inl ⟨by rfl, ?_⟩) ?_ ?_
                                                    rotate_left
                                                    · intro w'
                                                      go_simp
                                                      with_reducible rfl
                                                    rotate_left
                                                    · simp only [Act.put, List.setIfInBounds_toArray, List.set_cons_zero, List.set_cons_succ, i64_w, i32_w]
                                                      rfl
                                                    refine take_ (i := 14) (N := some 233) (v := ?_) (a' := ?_) #[true, true, true, true, true, true, true, true, true, true, true, true, true, true, true, false, false, false] rfl rfl (take_ofW HT_.out HW_.out (by kernel_rfl)) (fun _ _ _ h => h) (Or.inl ⟨by rfl, ?_⟩) hHeld ?_ ?_
                                                    rotate_left
                                                    · rintro w' ⟨s0, s1, s2, s3, s4⟩
                                                      go_simp
                                                      with_reducible rfl
                                                    rotate_left
                                                    · simp only [Act.put, List.setIfInBounds_toArray, List.set_cons_zero, List.set_cons_succ, i64_w, i32_w]
                                                      rfl
                                                    refine pure_ (i := 15) (N := some 234) (v := ?_) (a' := ?_) #[true, true, true, true, true, true, true, true, true, true, true, true, true, true, true, true, false, false] rfl rfl (any_of HT_.out (by kernel_rfl)) (fun _ _ _ h => h) (Or.inl ⟨by rfl, ?_⟩) ?_ ?_
                                                    rotate_left
                                                    · intro w'
                                                      go_simp
                                                      with_reducible rfl
                                                    rotate_left
                                                    · simp only [Act.put, List.setIfInBounds_toArray, List.set_cons_zero, List.set_cons_succ, i64_w, i32_w]
                                                      rfl
                                                    refine pure_ (i := 16) (N := some 235) (v := ?_) (a' := ?_) #[true, true, true, true, true, true, true, true, true, true, true, true, true, true, true, true, true, false] rfl rfl (any_of HT_.out (by kernel_rfl)) (fun _ _ _ h => h) (Or.inl ⟨by rfl, ?_⟩) ?_ ?_
                                                    rotate_left
                                                    · intro w'
                                                      go_simp
                                                      with_reducible rfl
                                                    rotate_left
                                                    · simp only [Act.put, List.setIfInBounds_toArray, List.set_cons_zero, List.set_cons_succ, i64_w, i32_w]
                                                      rfl
                                                    refine last_ (i := 17) (N := none) #[true, true, true, true, true, true, true, true, true, true, true, true, true, true, true, true, true, true] rfl rfl (one_of HT_.out (by kernel_rfl)) (by decide) (fun K hK => ?_)
                                                    refine skip_ (w1 := ?_) (by rfl) rfl ?_ ?_
                                                    rotate_left
                                                    · go_simp
                                                      rfl
                                                    refine hK.out _ _ ?_
                                                    clear hK K
                                                    refine done_ (done_of HT_.out (by kernel_rfl)) ?_
                                                    try go_wp2
                                                    go_roundg k4
                                                    case measure => have := HJ12.out; have := HJ34.out; have := HK3.out; have := HK4.out; omega
                                                    case rel => exact ⟨(y379), (wrap64 (x27_4 + 1)), (by first | rfl | (simp; done) | (simp [*]; done)), H', ⟨by have := HJ12.out; have := HJ34.out; have := HK3.out; have := HK4.out; omega⟩, ⟨by (with_reducible repeat (first | apply Kd.R_alloc | apply Kd.R_drewN | apply Kd.R_drew)); exact Kd.R_mono (Kd.R_far (p := ⟨go78, ((rd (rd_L3 t360 x27_4) 0) : Int).toNat, none⟩) (Kd.R_types HO_5.out GG78.out (by decide)) (fun _ hk => hk.2) (.int .i64 (wrap64 ((rd x26_4 (rd (rd_L3 t360 x27_4) 0)) + (rd (rd_L3 t360 x27_4) 1))))) (fun _ hk => trivial)⟩, ⟨by (with_reducible repeat (first | apply Kd.S_alloc | apply Kd.S_drewN | apply Kd.S_drew)); exact Kd.S_mono (Kd.S_far (p := ⟨go78, ((rd (rd_L3 t360 x27_4) 0) : Int).toNat, none⟩) (Kd.S_mono HO_24.out (fun k_ hk => (⟨hk, fun e_ => hk.1 (by rw [e_]; rfl)⟩ : _ ∧ k_ ≠ go78))) (fun _ hk => hk.2) (.int .i64 (wrap64 ((rd x26_4 (rd (rd_L3 t360 x27_4) 0)) + (rd (rd_L3 t360 x27_4) 1))))) (fun _ hk => ⟨hk.1.1, ⟨hk.1.2.1, hk.1.2.2⟩⟩)⟩, ⟨by (with_reducible repeat (first | apply Kd.R_alloc | apply Kd.R_drewN | apply Kd.R_drew)); exact HQ82.out⟩, ⟨by (with_reducible repeat (first | apply Kd.R_alloc | apply Kd.R_drewN | apply Kd.R_drew)); exact Kd.R_mono (Kd.R_far (p := ⟨go78, ((rd (rd_L3 t360 x27_4) 0) : Int).toNat, none⟩) (Kd.R_mono HO_335001.out (fun k_ hk => (⟨hk, fun e_ => hk.1 (by rw [e_]; rfl)⟩ : _ ∧ k_ ≠ go78))) (fun _ hk => hk.2) (.int .i64 (wrap64 ((rd x26_4 (rd (rd_L3 t360 x27_4) 0)) + (rd (rd_L3 t360 x27_4) 1))))) (fun _ hk => ⟨hk.1.1, hk.1.2⟩)⟩, ⟨by (with_reducible repeat (first | apply Kd.R_alloc | apply Kd.R_drewN | apply Kd.R_drew)); exact Kd.R_mono (Kd.R_far (p := ⟨go78, ((rd (rd_L3 t360 x27_4) 0) : Int).toNat, none⟩) (Kd.R_mono HO_335002.out (fun k_ hk => (⟨hk, fun e_ => hk.1 (by rw [e_]; rfl)⟩ : _ ∧ k_ ≠ go78))) (fun _ hk => hk.2) (.int .i64 (wrap64 ((rd x26_4 (rd (rd_L3 t360 x27_4) 0)) + (rd (rd_L3 t360 x27_4) 1))))) (fun _ hk => ⟨hk.1.1, hk.1.2⟩)⟩, ⟨by (with_reducible repeat (first | refine blk_drewN ?_ _ | refine blk_drew ?_ | refine blk_alloc ?_ _)); refine blk_far ?_ (by have h_ := Kd.R_ne HO_26.out BK334.out (by decide); intro e_; exact h_ (by rw [e_]; rfl)) _; (with_reducible repeat (first | refine blk_drewN ?_ _ | refine blk_drew ?_ | refine blk_alloc ?_ _)); exact BK334.out⟩, ⟨by repeat (first | (with_reducible first | exact HB.out | apply below_alloc | apply pw_below_drewN | apply below_drew1 | refine below_set ?_ GB78.out | refine below_set ?_ GE334.out) | exact HB.out)⟩⟩
                                                  · rw [if_neg c77] at H
                                                    exact absurd H (by simp)
                                                · rw [if_neg c76] at H
                                                  exact absurd H (by simp)
                                            · rw [if_neg c73] at H
                                              exact absurd H (by simp)
                                      · rw [if_neg c68] at H
                                        exact absurd H (by simp)
                                    · rw [if_neg c67] at H
                                      have c67b0 : (((rd_L3 t360 x27_4).length : Int) == 2) = false := beq_eq_false_iff_ne.mpr c67
                                      have c67b1 : (((rd_L3 t360 x27_4).length : Int) != 2) = true := bne_iff_ne.mpr c67
                                      obtain rfl := Option.some.inj H
                                      obtain ⟨Ao83, co83, eo83⟩ := Kd.S_slice HO_24.out
                                      subst eo83
                                      have p367 : 0 ≤ (x27_4 : Int) := of_decide_eq_true (by first | (with_reducible assumption) | assumption)
                                      have q367 : x27_4 < (t360.length : Int) := of_decide_eq_true (by first | (with_reducible assumption) | assumption)
                                      obtain ⟨ad367, A367_0, c367_0, e367, hx367_0, hl367_0, hi367_0⟩ := at_L3 (Kd.S_reads' HO_24.out).2.2 x27_4 p367 q367
                                      cases e367
                                      obtain ⟨ce367, hce367, hMe367, hcc367⟩ := Kd.S_get HO_24.out [] x27_4 p367 (by first | exact q367 | exact of_decide_eq_true (by first | (with_reducible assumption) | assumption) | (have e_ := (Kd.S_reads' HO_24.out).1; omega))
                                      obtain ⟨ve367_0, rfl, ge367_0⟩ := hMe367
                                      have hv367_0 := hcc367 0 _ rfl
                                      rw [Nat.add_zero, show ((Kd.slice 2 (Kd.int .i64))).sz = 1 from rfl, Nat.mul_one] at hv367_0
                                      replace hv367_0 := Option.some.inj (hv367_0.symm.trans hx367_0)
                                      rw [hv367_0] at ge367_0
                                      have HL367_0 := Aside0.mk (show Kd.R (Kd.int .i64) 2 _ _ _ _ (rd_L3 t360 x27_4) from ge367_0)
                                      clear hv367_0 ge367_0
                                      clear hcc367 hce367
                                      have HR367_0 := Aside0.mk hi367_0
                                      have HC367_0 := Aside0.mk hl367_0
                                      clear hi367_0 hl367_0
                                      replace p367 := eq_true p367
                                      replace q367 := eq_true q367
                                      go_wp2
                                      go_ret
                                      exact ⟨by first | rfl | (simp [errW_none, errW_some] <;> rfl) | (simp [*, errW_none, errW_some] <;> rfl), by repeat (first | (with_reducible first | exact HB.out | apply below_alloc | apply pw_below_drewN | apply below_drew1 | refine below_set ?_ GE334.out) | exact HB.out)⟩
                                  · rw [if_neg c66] at H
                                    exact absurd H (by simp)
                                · rw [if_neg c65] at H
                                  have c65b0 : decide (x27_4 < (t360.length : Int)) = false := decide_eq_false c65
                                  clear c65
                                  have H' := Aside0.mk H
                                  clear H
                                  obtain ⟨Ao84, co84, eo84⟩ := Kd.S_slice HO_24.out
                                  subst eo84
                                  go_wp2
                                  go_loopg [28] k4 (fun kq v28 w' => ∃ (x28_5 : Int), v28 = .int .i64 x28_5 ∧ Aside0 (laws_FnBars.l2 kq t324 x26_4 x28_5 = some r) ∧ Aside0 (kq ≤ k4) ∧ Aside0 (Kd.R k51 51 w' w.heap.size (fun _ => True) (.slice Ao22 t324.length co22) t324) ∧ Aside0 (Kd.R (Kd.int .i64) 2 w' w.heap.size (fun k_ => some k_ ≠ ((.slice Ao18 t328.length co18) : Value).ownBlock ∧ some k_ ≠ ((.slice Ao19 t331.length co19) : Value).ownBlock) v365 x26_4) ∧ Aside0 (Kd.R (Kd.int .i64) 2 w' w.heap.size (fun k_ => some k_ ≠ (v365 : Value).ownBlock ∧ some k_ ≠ ((.slice Ao19 t331.length co19) : Value).ownBlock) (.slice Ao18 t328.length co18) t328) ∧ Aside0 (Kd.R (Kd.int .i64) 2 w' w.heap.size (fun k_ => some k_ ≠ (v365 : Value).ownBlock ∧ some k_ ≠ ((.slice Ao18 t328.length co18) : Value).ownBlock) (.slice Ao19 t331.length co19) t331) ∧ Aside0 (w'.heap[gb334]? = some (.cells #[.string t327, (.slice Ao18 t328.length co18), (.slice Ao19 t331.length co19)] 26 (0, 0))) ∧ Aside0 (Below w.heap.size w w'))
                                  case atStart => exact ⟨(0), (by first | rfl | (simp; done) | (simp [*]; done)), H', ⟨Nat.le_refl _⟩, ⟨by (with_reducible repeat (first | apply Kd.R_alloc | apply Kd.R_drewN | apply Kd.R_drew)); exact HO_5.out⟩, ⟨by (with_reducible repeat (first | apply Kd.R_alloc | apply Kd.R_drewN | apply Kd.R_drew)); exact HO_26.out⟩, ⟨by (with_reducible repeat (first | apply Kd.R_alloc | apply Kd.R_drewN | apply Kd.R_drew)); exact HO_335001.out⟩, ⟨by (with_reducible repeat (first | apply Kd.R_alloc | apply Kd.R_drewN | apply Kd.R_drew)); exact HO_335002.out⟩, ⟨by (with_reducible repeat (first | refine blk_drewN ?_ _ | refine blk_drew ?_ | refine blk_alloc ?_ _)); exact BK334.out⟩, ⟨by repeat (first | (with_reducible first | exact HB.out | apply below_alloc | apply pw_below_drewN | apply below_drew1 | refine below_set ?_ GE334.out) | exact HB.out)⟩⟩
                                  case round => as_aux_lemma =>
                                    clear H'
                                    try clear p2
                                    try clear c3
                                    try clear p3
                                    try clear q3
                                    try clear hx3
                                    try clear qi3
                                    try clear c6
                                    try clear p6
                                    try clear c7
                                    try clear p7
                                    try clear q7
                                    try clear hx7
                                    try clear hf7
                                    try clear c36
                                    try clear p36
                                    try clear q36
                                    try clear hx36
                                    try clear qi36
                                    try clear c37
                                    try clear p37
                                    try clear q37
                                    try clear hx37
                                    try clear qi37
                                    try clear p64
                                    try clear c65
                                    try clear c65b0
                                    try clear c66
                                    try clear c67
                                    try clear c67b0
                                    try clear c67b1
                                    try clear c68
                                    try clear c71
                                    try clear c71b0
                                    try clear c73
                                    try clear c73b0
                                    try clear c73b1
                                    try clear c74
                                    try clear c74b0
                                    try clear c76
                                    try clear c76b0
                                    try clear c77
                                    try clear c77b0
                                    try clear p78
                                    try clear q78
                                    try clear hx78
                                    try clear hf78
                                    try clear hx367_0
                                    try clear hx368_0
                                    try clear hx369_0
                                    try clear hx370_0
                                    try clear hx371_0
                                    try clear hx372_0
                                    try clear hx373_0
                                    try clear hx374_0
                                    try clear hx375_0
                                    try clear hx376_0
                                    try clear hx377_0
                                    try clear hx378_0
                                    try clear hx78_0
                                    try clear p367
                                    try clear p368
                                    try clear p369
                                    try clear p370
                                    try clear p371
                                    try clear p372
                                    try clear p373
                                    try clear p374
                                    try clear p375
                                    try clear p376
                                    try clear p377
                                    try clear p378
                                    try clear p78
                                    try clear q367
                                    try clear q368
                                    try clear q369
                                    try clear q370
                                    try clear q371
                                    try clear q372
                                    try clear q373
                                    try clear q374
                                    try clear q375
                                    try clear q376
                                    try clear q377
                                    try clear q378
                                    try clear q78
                                    obtain ⟨x28_5, rfl, HA, HK5, HO_5, HO_26, HO_335001, HO_335002, BK334, HB⟩ := hrel
                                    cases gk with
                                    | zero => exact absurd HA.out (by simp [laws_FnBars.l2])
                                    | succ k5 =>
                                      have H := HA.out
                                      clear HA
                                      simp only [laws_FnBars.l2] at H
                                      by_cases c85 : x28_5 < (t324.length : Int)
                                      · rw [if_pos c85] at H
                                        have c85b0 : decide (x28_5 < (t324.length : Int)) = true := decide_eq_true c85
                                        clear c85
                                        by_cases c86 : 0 ≤ x28_5
                                        · rw [if_pos c86] at H
                                          have c86b0 : decide (0 ≤ x28_5) = true := decide_eq_true c86
                                          clear c86
                                          by_cases c87 : x28_5 < (x26_4.length : Int)
                                          · rw [if_pos c87] at H
                                            have c87b0 : decide (x28_5 < (x26_4.length : Int)) = true := decide_eq_true c87
                                            clear c87
                                            by_cases c88 : (rd x26_4 x28_5) = ((rd_T51 t324 x28_5).f1)
                                            · rw [if_pos c88] at H
                                              have c88b0 : ((rd x26_4 x28_5) == ((rd_T51 t324 x28_5).f1)) = true := beq_iff_eq.mpr c88
                                              have c88b1 : ((rd x26_4 x28_5) != ((rd_T51 t324 x28_5).f1)) = false := bne_eq_false_iff_eq.mpr c88
                                              clear c88
                                              have H' := Aside0.mk H
                                              clear H
                                              try go_wp2
                                              have n0_ := Aside0.mk (Kd.R_drew HO_5.out)
                                              have n1_ := Aside0.mk (Kd.R_drew HO_26.out)
                                              have n2_ := Aside0.mk (Kd.R_drew HO_335001.out)
                                              have n3_ := Aside0.mk (Kd.R_drew HO_335002.out)
                                              have n4_ := Aside0.mk (blk_drew BK334.out)
                                              have n5_ := Aside0.mk (below_drew1 HB.out)
                                              clear HO_5
                                              clear HO_26
                                              clear HO_335001
                                              clear HO_335002
                                              clear BK334
                                              clear HB
                                              have HO_5 := n0_
                                              have HO_26 := n1_
                                              have HO_335001 := n2_
                                              have HO_335002 := n3_
                                              have BK334 := n4_
                                              have HB := n5_
                                              clear n0_ n1_ n2_ n3_ n4_ n5_
                                              obtain ⟨Ao90, co90, eo90⟩ := Kd.R_slice HO_26.out
                                              (first | subst eo90 | (injection eo90 with f1_ f2_ f3_; have f4_ := f1_.symm; have f5_ := f3_.symm; clear f1_ f2_ f3_; subst f4_; subst f5_))
                                              have p380 : 0 ≤ (x28_5 : Int) := of_decide_eq_true (by first | (with_reducible assumption) | assumption)
                                              have q380 : x28_5 < (x26_4.length : Int) := of_decide_eq_true (by first | (with_reducible assumption) | assumption)
                                              obtain ⟨ad380, e380, hx380_0⟩ := Kd.at_int (Kd.R_reads' HO_26.out).2.2 x28_5 p380 q380
                                              cases e380
                                              replace p380 := eq_true p380
                                              replace q380 := eq_true q380
                                              have p381 : 0 ≤ (x28_5 : Int) := of_decide_eq_true (by first | (with_reducible assumption) | assumption)
                                              have q381 : x28_5 < (t324.length : Int) := of_decide_eq_true (by first | (with_reducible assumption) | assumption)
                                              obtain ⟨ad381, e381, hx381_0, hx381_1⟩ := at_T51 (Kd.R_reads' HO_5.out).2.2 x28_5 p381 q381
                                              cases e381
                                              replace p381 := eq_true p381
                                              replace q381 := eq_true q381
                                              refine start_ (n := 10) (S := fun w' => w'.cell? (ad380.add (x28_5).toNat) = some (.int .i64 (rd x26_4 x28_5)) ∧ w'.cell? (ad381.add ((x28_5).toNat * 2)) = some (.int .i64 ((rd_T51 t324 x28_5).f0)) ∧ w'.cell? ⟨(ad381.add ((x28_5).toNat * 2)).block, (ad381.add ((x28_5).toNat * 2)).off + 1, none⟩ = some (.int .i64 ((rd_T51 t324 x28_5).f1))) (ds := []) #[false, false, false, false, false, false, false, false, false, false] (by kernel_rfl) rfl rfl ⟨hx380_0, hx381_0, hx381_1⟩ (fun hHeld => ?_); refine with_tabW laws_FnBars.tab37 laws_FnBars.bits37 (fun HT_ HW_ => ?_)
                                              generalize wr.drew = w89 at HO_5 HO_26 HO_335001 HO_335002 BK334 HB hx380_0 hx381_0 hx381_1 hHeld ⊢
                                              refine pure_ (i := 0) (N := some 242) (v := ?_) (a' := ?_) #[true, false, false, false, false, false, false, false, false, false] rfl rfl (any_of HT_.out (by kernel_rfl)) (fun _ _ _ h => h) (Or.inl ⟨by rfl, ?_⟩) ?_ ?_
                                              rotate_left
                                              · intro w'
                                                go_simp
                                                with_reducible rfl
                                              rotate_left
                                              · simp only [Act.put, List.setIfInBounds_toArray, List.set_cons_zero, List.set_cons_succ, i64_w, i32_w]
                                                rfl
                                              refine pure_ (i := 1) (N := some 243) (v := ?_) (a' := ?_) #[true, true, false, false, false, false, false, false, false, false] rfl rfl (any_of HT_.out (by kernel_rfl)) (fun _ _ _ h => h) (Or.inl ⟨by rfl, ?_⟩) ?_ ?_
                                              rotate_left
                                              · intro w'
                                                go_simp
                                                with_reducible rfl
                                              rotate_left
                                              · simp only [Act.put, List.setIfInBounds_toArray, List.set_cons_zero, List.set_cons_succ, i64_w, i32_w]
                                                rfl
                                              refine pure_ (i := 2) (N := some 244) (v := ?_) (a' := ?_) #[true, true, true, false, false, false, false, false, false, false] rfl rfl (any_of HT_.out (by kernel_rfl)) (fun _ _ _ h => h) (Or.inl ⟨by rfl, ?_⟩) ?_ ?_
                                              rotate_left
                                              · intro w'
                                                go_simp
                                                with_reducible rfl
                                              rotate_left
                                              · simp only [Act.put, List.setIfInBounds_toArray, List.set_cons_zero, List.set_cons_succ, i64_w, i32_w]
                                                rfl
                                              refine pure_ (i := 4) (N := some 246) (v := ?_) (a' := ?_) #[true, true, true, false, true, false, false, false, false, false] rfl rfl (any_of HT_.out (by kernel_rfl)) (fun _ _ _ h => h) (Or.inl ⟨by rfl, ?_⟩) ?_ ?_
                                              rotate_left
                                              · intro w'
                                                go_simp
                                                with_reducible rfl
                                              rotate_left
                                              · simp only [Act.put, List.setIfInBounds_toArray, List.set_cons_zero, List.set_cons_succ, i64_w, i32_w]
                                                rfl
                                              refine pure_ (i := 5) (N := some 247) (v := ?_) (a' := ?_) #[true, true, true, false, true, true, false, false, false, false] rfl rfl (any_of HT_.out (by kernel_rfl)) (fun _ _ _ h => h) (Or.inl ⟨by rfl, ?_⟩) ?_ ?_
                                              rotate_left
                                              · intro w'
                                                go_simp
                                                with_reducible rfl
                                              rotate_left
                                              · simp only [Act.put, List.setIfInBounds_toArray, List.set_cons_zero, List.set_cons_succ, i64_w, i32_w]
                                                rfl
                                              refine pure_ (i := 6) (N := some 248) (v := ?_) (a' := ?_) #[true, true, true, false, true, true, true, false, false, false] rfl rfl (any_of HT_.out (by kernel_rfl)) (fun _ _ _ h => h) (Or.inl ⟨by rfl, ?_⟩) ?_ ?_
                                              rotate_left
                                              · intro w'
                                                go_simp
                                                with_reducible rfl
                                              rotate_left
                                              · simp only [Act.put, List.setIfInBounds_toArray, List.set_cons_zero, List.set_cons_succ, i64_w, i32_w]
                                                rfl
                                              refine pure_ (i := 7) (N := some 249) (v := ?_) (a' := ?_) #[true, true, true, false, true, true, true, true, false, false] rfl rfl (any_of HT_.out (by kernel_rfl)) (fun _ _ _ h => h) (Or.inl ⟨by rfl, ?_⟩) ?_ ?_
                                              rotate_left
                                              · intro w'
                                                go_simp
                                                with_reducible rfl
                                              rotate_left
                                              · simp only [Act.put, List.setIfInBounds_toArray, List.set_cons_zero, List.set_cons_succ, i64_w, i32_w]
                                                rfl
                                              refine take_ (i := 3) (N := some 245) (v := ?_) (a' := ?_) #[true, true, true, true, true, true, true, true, false, false] rfl rfl (take_ofW HT_.out HW_.out (by kernel_rfl)) (fun _ _ _ h => h) (Or.inl ⟨by rfl, ?_⟩) hHeld ?_ ?_
                                              rotate_left
                                              · rintro w' ⟨s0, s1, s2⟩
                                                go_simp
                                                with_reducible rfl
                                              rotate_left
                                              · simp only [Act.put, List.setIfInBounds_toArray, List.set_cons_zero, List.set_cons_succ, i64_w, i32_w]
                                                rfl
                                              refine take_ (i := 8) (N := some 250) (v := ?_) (a' := ?_) #[true, true, true, true, true, true, true, true, true, false] rfl rfl (take_ofW HT_.out HW_.out (by kernel_rfl)) (fun _ _ _ h => h) (Or.inl ⟨by rfl, ?_⟩) hHeld ?_ ?_
                                              rotate_left
                                              · rintro w' ⟨s0, s1, s2⟩
                                                go_simp
                                                with_reducible rfl
                                              rotate_left
                                              · simp only [Act.put, List.setIfInBounds_toArray, List.set_cons_zero, List.set_cons_succ, i64_w, i32_w]
                                                rfl
                                              refine pure_ (i := 9) (N := some 251) (v := ?_) (a' := ?_) #[true, true, true, true, true, true, true, true, true, true] rfl rfl (any_of HT_.out (by kernel_rfl)) (fun _ _ _ h => h) (Or.inl ⟨by rfl, ?_⟩) ?_ ?_
                                              rotate_left
                                              · intro w'
                                                go_simp
                                                with_reducible rfl
                                              rotate_left
                                              · simp only [Act.put, List.setIfInBounds_toArray, List.set_cons_zero, List.set_cons_succ, i64_w, i32_w]
                                                rfl
                                              refine done_ (done_of HT_.out (by kernel_rfl)) ?_
                                              try go_wp2
                                              go_roundg k5
                                              case measure => have := HJ12.out; have := HJ34.out; have := HK3.out; have := HK4.out; have := HK5.out; omega
                                              case rel => exact ⟨(wrap64 (x28_5 + 1)), (by first | rfl | (simp; done) | (simp [*]; done)), H', ⟨by have := HJ12.out; have := HJ34.out; have := HK3.out; have := HK4.out; have := HK5.out; omega⟩, ⟨by (with_reducible repeat (first | apply Kd.R_alloc | apply Kd.R_drewN | apply Kd.R_drew)); exact HO_5.out⟩, ⟨by (with_reducible repeat (first | apply Kd.R_alloc | apply Kd.R_drewN | apply Kd.R_drew)); exact HO_26.out⟩, ⟨by (with_reducible repeat (first | apply Kd.R_alloc | apply Kd.R_drewN | apply Kd.R_drew)); exact HO_335001.out⟩, ⟨by (with_reducible repeat (first | apply Kd.R_alloc | apply Kd.R_drewN | apply Kd.R_drew)); exact HO_335002.out⟩, ⟨by (with_reducible repeat (first | refine blk_drewN ?_ _ | refine blk_drew ?_ | refine blk_alloc ?_ _)); exact BK334.out⟩, ⟨by repeat (first | (with_reducible first | exact HB.out | apply below_alloc | apply pw_below_drewN | apply below_drew1 | refine below_set ?_ GE334.out) | exact HB.out)⟩⟩
                                            · rw [if_neg c88] at H
                                              have c88b0 : ((rd x26_4 x28_5) == ((rd_T51 t324 x28_5).f1)) = false := beq_eq_false_iff_ne.mpr c88
                                              have c88b1 : ((rd x26_4 x28_5) != ((rd_T51 t324 x28_5).f1)) = true := bne_iff_ne.mpr c88
                                              obtain rfl := Option.some.inj H
                                              try go_wp2
                                              have n0_ := Aside0.mk (Kd.R_drew HO_5.out)
                                              have n1_ := Aside0.mk (Kd.R_drew HO_26.out)
                                              have n2_ := Aside0.mk (Kd.R_drew HO_335001.out)
                                              have n3_ := Aside0.mk (Kd.R_drew HO_335002.out)
                                              have n4_ := Aside0.mk (blk_drew BK334.out)
                                              have n5_ := Aside0.mk (below_drew1 HB.out)
                                              clear HO_5
                                              clear HO_26
                                              clear HO_335001
                                              clear HO_335002
                                              clear BK334
                                              clear HB
                                              have HO_5 := n0_
                                              have HO_26 := n1_
                                              have HO_335001 := n2_
                                              have HO_335002 := n3_
                                              have BK334 := n4_
                                              have HB := n5_
                                              clear n0_ n1_ n2_ n3_ n4_ n5_
                                              obtain ⟨Ao92, co92, eo92⟩ := Kd.R_slice HO_26.out
                                              (first | subst eo92 | (injection eo92 with f1_ f2_ f3_; have f4_ := f1_.symm; have f5_ := f3_.symm; clear f1_ f2_ f3_; subst f4_; subst f5_))
                                              have p380 : 0 ≤ (x28_5 : Int) := of_decide_eq_true (by first | (with_reducible assumption) | assumption)
                                              have q380 : x28_5 < (x26_4.length : Int) := of_decide_eq_true (by first | (with_reducible assumption) | assumption)
                                              obtain ⟨ad380, e380, hx380_0⟩ := Kd.at_int (Kd.R_reads' HO_26.out).2.2 x28_5 p380 q380
                                              cases e380
                                              replace p380 := eq_true p380
                                              replace q380 := eq_true q380
                                              have p381 : 0 ≤ (x28_5 : Int) := of_decide_eq_true (by first | (with_reducible assumption) | assumption)
                                              have q381 : x28_5 < (t324.length : Int) := of_decide_eq_true (by first | (with_reducible assumption) | assumption)
                                              obtain ⟨ad381, e381, hx381_0, hx381_1⟩ := at_T51 (Kd.R_reads' HO_5.out).2.2 x28_5 p381 q381
                                              cases e381
                                              replace p381 := eq_true p381
                                              replace q381 := eq_true q381
                                              refine start_ (n := 10) (S := fun w' => w'.cell? (ad380.add (x28_5).toNat) = some (.int .i64 (rd x26_4 x28_5)) ∧ w'.cell? (ad381.add ((x28_5).toNat * 2)) = some (.int .i64 ((rd_T51 t324 x28_5).f0)) ∧ w'.cell? ⟨(ad381.add ((x28_5).toNat * 2)).block, (ad381.add ((x28_5).toNat * 2)).off + 1, none⟩ = some (.int .i64 ((rd_T51 t324 x28_5).f1))) (ds := []) #[false, false, false, false, false, false, false, false, false, false] (by kernel_rfl) rfl rfl ⟨hx380_0, hx381_0, hx381_1⟩ (fun hHeld => ?_); refine with_tabW laws_FnBars.tab37 laws_FnBars.bits37 (fun HT_ HW_ => ?_)
                                              generalize wr.drew = w91 at HO_5 HO_26 HO_335001 HO_335002 BK334 HB hx380_0 hx381_0 hx381_1 hHeld ⊢
                                              refine pure_ (i := 0) (N := some 242) (v := ?_) (a' := ?_) #[true, false, false, false, false, false, false, false, false, false] rfl rfl (any_of HT_.out (by kernel_rfl)) (fun _ _ _ h => h) (Or.inl ⟨by rfl, ?_⟩) ?_ ?_
                                              rotate_left
                                              · intro w'
                                                go_simp
                                                with_reducible rfl
                                              rotate_left
                                              · simp only [Act.put, List.setIfInBounds_toArray, List.set_cons_zero, List.set_cons_succ, i64_w, i32_w]
                                                rfl
                                              refine pure_ (i := 1) (N := some 243) (v := ?_) (a' := ?_) #[true, true, false, false, false, false, false, false, false, false] rfl rfl (any_of HT_.out (by kernel_rfl)) (fun _ _ _ h => h) (Or.inl ⟨by rfl, ?_⟩) ?_ ?_
                                              rotate_left
                                              · intro w'
                                                go_simp
                                                with_reducible rfl
                                              rotate_left
                                              · simp only [Act.put, List.setIfInBounds_toArray, List.set_cons_zero, List.set_cons_succ, i64_w, i32_w]
                                                rfl
                                              refine pure_ (i := 2) (N := some 244) (v := ?_) (a' := ?_) #[true, true, true, false, false, false, false, false, false, false] rfl rfl (any_of HT_.out (by kernel_rfl)) (fun _ _ _ h => h) (Or.inl ⟨by rfl, ?_⟩) ?_ ?_
                                              rotate_left
                                              · intro w'
                                                go_simp
                                                with_reducible rfl
                                              rotate_left
                                              · simp only [Act.put, List.setIfInBounds_toArray, List.set_cons_zero, List.set_cons_succ, i64_w, i32_w]
                                                rfl
                                              refine pure_ (i := 4) (N := some 246) (v := ?_) (a' := ?_) #[true, true, true, false, true, false, false, false, false, false] rfl rfl (any_of HT_.out (by kernel_rfl)) (fun _ _ _ h => h) (Or.inl ⟨by rfl, ?_⟩) ?_ ?_
                                              rotate_left
                                              · intro w'
                                                go_simp
                                                with_reducible rfl
                                              rotate_left
                                              · simp only [Act.put, List.setIfInBounds_toArray, List.set_cons_zero, List.set_cons_succ, i64_w, i32_w]
                                                rfl
                                              refine pure_ (i := 5) (N := some 247) (v := ?_) (a' := ?_) #[true, true, true, false, true, true, false, false, false, false] rfl rfl (any_of HT_.out (by kernel_rfl)) (fun _ _ _ h => h) (Or.inl ⟨by rfl, ?_⟩) ?_ ?_
                                              rotate_left
                                              · intro w'
                                                go_simp
                                                with_reducible rfl
                                              rotate_left
                                              · simp only [Act.put, List.setIfInBounds_toArray, List.set_cons_zero, List.set_cons_succ, i64_w, i32_w]
                                                rfl
                                              refine pure_ (i := 6) (N := some 248) (v := ?_) (a' := ?_) #[true, true, true, false, true, true, true, false, false, false] rfl rfl (any_of HT_.out (by kernel_rfl)) (fun _ _ _ h => h) (Or.inl ⟨by rfl, ?_⟩) ?_ ?_
                                              rotate_left
                                              · intro w'
                                                go_simp
                                                with_reducible rfl
                                              rotate_left
                                              · simp only [Act.put, List.setIfInBounds_toArray, List.set_cons_zero, List.set_cons_succ, i64_w, i32_w]
                                                rfl
                                              refine pure_ (i := 7) (N := some 249) (v := ?_) (a' := ?_) #[true, true, true, false, true, true, true, true, false, false] rfl rfl (any_of HT_.out (by kernel_rfl)) (fun _ _ _ h => h) (Or.inl ⟨by rfl, ?_⟩) ?_ ?_
                                              rotate_left
                                              · intro w'
                                                go_simp
                                                with_reducible rfl
                                              rotate_left
                                              · simp only [Act.put, List.setIfInBounds_toArray, List.set_cons_zero, List.set_cons_succ, i64_w, i32_w]
                                                rfl
                                              refine take_ (i := 3) (N := some 245) (v := ?_) (a' := ?_) #[true, true, true, true, true, true, true, true, false, false] rfl rfl (take_ofW HT_.out HW_.out (by kernel_rfl)) (fun _ _ _ h => h) (Or.inl ⟨by rfl, ?_⟩) hHeld ?_ ?_
                                              rotate_left
                                              · rintro w' ⟨s0, s1, s2⟩
                                                go_simp
                                                with_reducible rfl
                                              rotate_left
                                              · simp only [Act.put, List.setIfInBounds_toArray, List.set_cons_zero, List.set_cons_succ, i64_w, i32_w]
                                                rfl
                                              refine take_ (i := 8) (N := some 250) (v := ?_) (a' := ?_) #[true, true, true, true, true, true, true, true, true, false] rfl rfl (take_ofW HT_.out HW_.out (by kernel_rfl)) (fun _ _ _ h => h) (Or.inl ⟨by rfl, ?_⟩) hHeld ?_ ?_
                                              rotate_left
                                              · rintro w' ⟨s0, s1, s2⟩
                                                go_simp
                                                with_reducible rfl
                                              rotate_left
                                              · simp only [Act.put, List.setIfInBounds_toArray, List.set_cons_zero, List.set_cons_succ, i64_w, i32_w]
                                                rfl
                                              refine pure_ (i := 9) (N := some 251) (v := ?_) (a' := ?_) #[true, true, true, true, true, true, true, true, true, true] rfl rfl (any_of HT_.out (by kernel_rfl)) (fun _ _ _ h => h) (Or.inl ⟨by rfl, ?_⟩) ?_ ?_
                                              rotate_left
                                              · intro w'
                                                go_simp
                                                with_reducible rfl
                                              rotate_left
                                              · simp only [Act.put, List.setIfInBounds_toArray, List.set_cons_zero, List.set_cons_succ, i64_w, i32_w]
                                                rfl
                                              refine done_ (done_of HT_.out (by kernel_rfl)) ?_
                                              try go_wp2
                                              go_ret
                                              exact ⟨by first | rfl | (simp [errW_none, errW_some] <;> rfl) | (simp [*, errW_none, errW_some] <;> rfl), by repeat (first | (with_reducible first | exact HB.out | apply below_alloc | apply pw_below_drewN | apply below_drew1 | refine below_set ?_ GE334.out) | exact HB.out)⟩
                                          · rw [if_neg c87] at H
                                            exact absurd H (by simp)
                                        · rw [if_neg c86] at H
                                          exact absurd H (by simp)
                                      · rw [if_neg c85] at H
                                        have c85b0 : decide (x28_5 < (t324.length : Int)) = false := decide_eq_false c85
                                        clear c85
                                        obtain rfl := Option.some.inj H
                                        go_wp2
                                        go_ret
                                        exact ⟨by first | rfl | (simp [errW_none, errW_some] <;> rfl) | (simp [*, errW_none, errW_some] <;> rfl), by repeat (first | (with_reducible first | exact HB.out | apply below_alloc | apply pw_below_drewN | apply below_drew1 | refine below_set ?_ GE334.out) | exact HB.out)⟩
                          · rw [if_neg c60] at H
                            exact absurd H (by simp)
                        · rw [if_neg c59] at H
                          exact absurd H (by simp)
                      · rw [if_neg c58] at H
                        have c58b0 : (t363 == 0) = false := beq_eq_false_iff_ne.mpr c58
                        have c58b1 : (t363 != 0) = true := bne_iff_ne.mpr c58
                        obtain rfl := Option.some.inj H
                        have hcz93_0 : wr.cell? ⟨gb334, 0, none⟩ = some (.string t327) := (blk_cell BK334.out 0).trans rfl
                        have hcz93_1 : wr.cell? ⟨gb334, 1, none⟩ = some (.slice Ao18 t328.length co18) := (blk_cell BK334.out 1).trans rfl
                        have hcz93_2 : wr.cell? ⟨gb334, 2, none⟩ = some (.slice Ao19 t331.length co19) := (blk_cell BK334.out 2).trans rfl
                        have hfz93_0 := blk_frozen BK334.out 0
                        have hfz93_1 := blk_frozen BK334.out 1
                        have hfz93_2 := blk_frozen BK334.out 2
                        go_wp2_with (first | ((with_reducible refine gate_callee (f := 26) rfl ?_); refine goesL_ (some 168) rfl rfl Try.func26 (by kernel_rfl) rfl #[.slice Ao22 t324.length co22, .agg #[.string t327, .slice Ao18 t328.length co18, .slice Ao19 t331.length co19], .int .i64 (wrap64 (1 + t335))] rfl (by (try simp only [List.map_toArray, List.map_cons, List.map_nil]); first | done | rfl | (simp only [List.length_drop, List.length_take]; rfl)) ?_; (with_reducible refine (impl_SplitNotes.calls k3 _ _ t324 t327 _ _ t328 _ _ t331 (wrap64 (1 + t335)) t360 t363 _ ?side1 ?side2 ?side3 ?side4 ?side5 ?side6 A57.out).mono ?_); (case side1 => repeat (first | exact (Kd.R_reads' HO_5.out).2.2 | (with_reducible refine Kd.C_alloc ?_ _) | (with_reducible refine Kd.C_drewN ?_ _) | (with_reducible refine Kd.C_drew ?_))); (case side2 => exact (Kd.R_reads' HO_5.out).2.1); (case side3 => repeat (first | exact (Kd.R_reads' HO_335001.out).2.2 | (with_reducible refine Kd.C_alloc ?_ _) | (with_reducible refine Kd.C_drewN ?_ _) | (with_reducible refine Kd.C_drew ?_))); (case side4 => exact (Kd.R_reads' HO_335001.out).2.1); (case side5 => repeat (first | exact (Kd.R_reads' HO_335002.out).2.2 | (with_reducible refine Kd.C_alloc ?_ _) | (with_reducible refine Kd.C_drewN ?_ _) | (with_reducible refine Kd.C_drew ?_))); (case side6 => exact (Kd.R_reads' HO_335002.out).2.1); rintro e w94 ⟨v361, rfl, ho0, hb⟩; refine ⟨_, rfl, ?_⟩; have n0_ := Aside0.mk (Kd.R_below (by (with_reducible repeat (first | apply Kd.R_alloc | apply Kd.R_drewN | apply Kd.R_drew)); exact HO_5.out) hb); have n1_ := Aside0.mk (Kd.R_below (by (with_reducible repeat (first | apply Kd.R_alloc | apply Kd.R_drewN | apply Kd.R_drew)); exact HO_18.out) hb); have n2_ := Aside0.mk (Kd.R_below (by (with_reducible repeat (first | apply Kd.R_alloc | apply Kd.R_drewN | apply Kd.R_drew)); exact HO_335001.out) hb); have n3_ := Aside0.mk (Kd.R_below (by (with_reducible repeat (first | apply Kd.R_alloc | apply Kd.R_drewN | apply Kd.R_drew)); exact HO_335002.out) hb); have n4_ := Aside0.mk (Kd.S_lower (Kd.S_new' (Kd.S_new' (Kd.S_new' ho0 (Kd.R_lt (by (with_reducible repeat (first | apply Kd.R_alloc | apply Kd.R_drewN | apply Kd.R_drew)); exact HO_18.out))) (Kd.R_lt (by (with_reducible repeat (first | apply Kd.R_alloc | apply Kd.R_drewN | apply Kd.R_drew)); exact HO_335001.out))) (Kd.R_lt (by (with_reducible repeat (first | apply Kd.R_alloc | apply Kd.R_drewN | apply Kd.R_drew)); exact HO_335002.out))) (below_size (by repeat (first | (with_reducible first | exact HB.out | apply below_alloc | apply pw_below_drewN | apply below_drew1 | refine below_set ?_ GE334.out) | exact HB.out)))); have n5_ := Aside0.mk (blk_below (g := gb334) (o := .cells #[.string t327, .slice Ao18 t328.length co18, .slice Ao19 t331.length co19] 26 (0, 0)) (by (with_reducible repeat (first | refine blk_drewN ?_ _ | refine blk_drew ?_ | refine blk_alloc ?_ _)); exact BK334.out) hb); have n6_ := Aside0.mk (below_step (by repeat (first | (with_reducible first | exact HB.out | apply below_alloc | apply pw_below_drewN | apply below_drew1 | refine below_set ?_ GE334.out) | exact HB.out)) hb); clear HO_5; clear HO_18; clear HO_335001; clear HO_335002; clear BK334; clear HB; have HO_5 := n0_; have HO_18 := n1_; have HO_335001 := n2_; have HO_335002 := n3_; have HO362 := n4_; have BK334 := n5_; have HB := n6_; clear n0_ n1_ n2_ n3_ n4_ n5_ n6_; (try clear hb); (try clear hb2); (try clear hk); (try clear hi); (try clear ho0)))
                        go_ret
                        exact ⟨by first | rfl | (simp [errW_none, errW_some] <;> rfl) | (simp [*, errW_none, errW_some] <;> rfl), by repeat (first | (with_reducible first | exact HB.out | apply below_alloc | apply pw_below_drewN | apply below_drew1 | refine below_set ?_ GE334.out) | exact HB.out)⟩

/-- THE ONE PURE STATEMENT of laws_FnBars: yours. -/
def laws_FnBars.Pure : Prop := ∀ (l0 : List Int) (l1 : List Int), l0.length ≤ maxLen → l0.length * 1 ≤ 140737488351232 → (∀ x ∈ l0, (Lit.int .u8 x).wf = true) → l1.length ≤ maxLen → l1.length * 1 ≤ 140737488351232 → (∀ x ∈ l1, (Lit.int .u8 x).wf = true) → ∃ k, laws_FnBars.f k l0 l1 = some true
theorem laws_FnBars.walk (P : laws_FnBars.Pure) (a0 : Option Addr) (len0 cap0 : Nat) (z0 : List Int) (a1 : Option Addr) (len1 cap1 : Nat) (z1 : List Int) (w : World) (w0 : (a0 = none ∧ len0 = 0 ∧ cap0 = 0 ∧ z0 = []) ∨ ∃ x, a0 = some x ∧ len0 ≤ cap0 ∧ cap0 ≤ maxLen ∧ z0.length = cap0 ∧ (∀ i, i < z0.length → w.cell? (x.add i) = some (.int .u8 (z0.getD i 0))) ∧ ∀ n ∈ z0, (Lit.int .u8 n).wf = true) (y0 : len0 * 1 ≤ 140737488351232) (w1 : (a1 = none ∧ len1 = 0 ∧ cap1 = 0 ∧ z1 = []) ∨ ∃ x, a1 = some x ∧ len1 ≤ cap1 ∧ cap1 ≤ maxLen ∧ z1.length = cap1 ∧ (∀ i, i < z1.length → w.cell? (x.add i) = some (.int .u8 (z1.getD i 0))) ∧ ∀ n ∈ z1, (Lit.int .u8 n).wf = true) (y1 : len1 * 1 ≤ 140737488351232) :
    Calls Try.prog 4 #[.slice a0 len0 cap0, .slice a1 len1 cap1] w fun e w' => e = .returned (.bool true) ∧ Below w.heap.size w w' := by
  obtain ⟨l0, rfl, hr0, hm0, hw0, hc0⟩ := ReadsInt.ofRowC w0
  obtain ⟨l1, rfl, hr1, hm1, hw1, hc1⟩ := ReadsInt.ofRowC w1
  obtain ⟨k, h⟩ := P l0 l1 hm0 y0 hw0 hm1 y1 hw1
  refine (laws_FnBars.calls k _ _ l0 _ _ l1 true w (Kd.C_of_reads (d := (0 : Int)) (h1 := fun _ => rfl) hr0) hc0 (Kd.C_of_reads (d := (0 : Int)) (h1 := fun _ => rfl) hr1) hc1 h).mono ?_
  rintro e w' ⟨rfl, hd⟩
  exact ⟨rfl, hd⟩

end Go.Proofs.Ytbpliblhpiompaa.PFnBars
