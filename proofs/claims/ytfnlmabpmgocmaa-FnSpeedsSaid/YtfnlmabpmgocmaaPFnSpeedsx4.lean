-- written by xprint.py, a program of this repo over the kit's print; not trusted: Lean checks it
import Derived.Test.YtfnlmabpmgocmaaPFnSpeedsx0
import Derived.Test.YtfnlmabpmgocmaaPFnSpeedsx1
import Derived.Test.YtfnlmabpmgocmaaPFnSpeedsx2
import Derived.Test.YtfnlmabpmgocmaaPFnSpeedsx3
namespace Go.Proofs.Ytfnlmabpmgocmaa.PFnSpeeds
open Go.RowKit Go.Proofs.YtfnlmabpmgocmaaW.PrintWords Go.Proofs.YtfnlmabpmgocmaaW.PrintLast Go.Proofs.YtfnlmabpmgocmaaW.PrintMore
attribute [local go_sem] max2_int min2_int max_two min_two max_three min_three max_four min_four   -- for this text's walks alone
set_option linter.unusedVariables false
set_option linter.unusedSimpArgs false

/-! ### laws_FnSpeeds: function 3 -/
mutual
def laws_FnSpeeds.l0 : Nat → Int → Int → Int → Int → Int → Int → Int → Int → Int → Int → Int → Int → Option (Bool)
  | 0, _, _, _, _, _, _, _, _, _, _, _, _ => none
  | k + 1, x7, x8, x9, x10, x12, x13, x14, x15, x133000, x133001, x136000, x136001 => if x15 > 0 then (if x15 = 0 then (none) else (laws_FnSpeeds.l0 k x7 x8 x9 x10 x12 x13 x15 (Int.tmod x14 x15) x133000 x133001 x136000 x136001)) else (if x8 = 0 then (if x10 = 0 then (if x7 = x9 then (if x7 < 1 then (laws_FnSpeeds.j1 k x7 true x133000 x133001 x136000 x136001) else (if x13 = 0 then (laws_FnSpeeds.j1 k x7 (x12 != x14) x133000 x133001 x136000 x136001) else (laws_FnSpeeds.j1 k x7 true x133000 x133001 x136000 x136001))) else (laws_FnSpeeds.j1 k x7 true x133000 x133001 x136000 x136001)) else (laws_FnSpeeds.j1 k x7 true x133000 x133001 x136000 x136001)) else (laws_FnSpeeds.j1 k x7 true x133000 x133001 x136000 x136001))
def laws_FnSpeeds.j1 : Nat → Int → Bool → Int → Int → Int → Int → Option (Bool)
  | 0, _, _, _, _, _, _ => none
  | k + 1, x7, x100, x133000, x133001, x136000, x136001 => if x100 = true then (some false) else ((impl_TicksFor.f k (([(⟨x133000, x133001⟩ : S26), (⟨x136000, x136001⟩ : S26)] : List (S26)))).bind fun bt146 => ((impl_MergeLayers.f k (([(⟨x133000, x133001⟩ : S26), (⟨x136000, x136001⟩ : S26)] : List (S26)))).bind fun bt151 => ((impl_HitTicks.f k x133000 x133001 bt146.1).bind fun bt155 => (if bt146.2 = 0 then (if bt151.2 = 0 then (if bt155.2 = 0 then (if (bt155.1.length : Int) = x133000 then (laws_FnSpeeds.j2 k bt146.1 bt151.1 bt155.1 ((wrap64 ((bt151.1.length : Int) + x7)) != (wrap64 (x133000 + x136000))) x133000 x133001 x136000 x136001) else (laws_FnSpeeds.j2 k bt146.1 bt151.1 bt155.1 true x133000 x133001 x136000 x136001)) else (laws_FnSpeeds.j2 k bt146.1 bt151.1 bt155.1 true x133000 x133001 x136000 x136001)) else (laws_FnSpeeds.j2 k bt146.1 bt151.1 bt155.1 true x133000 x133001 x136000 x136001)) else (laws_FnSpeeds.j2 k bt146.1 bt151.1 bt155.1 true x133000 x133001 x136000 x136001)))))
def laws_FnSpeeds.j2 : Nat → Int → List (List Int) → List Int → Bool → Int → Int → Int → Int → Option (Bool)
  | 0, _, _, _, _, _, _, _, _ => none
  | k + 1, x17, x19, x21, x149, x133000, x133001, x136000, x136001 => if x149 = true then (some false) else (laws_FnSpeeds.l1 k x17 x19 x21 0 0 x133000 x133001 x136000 x136001)
def laws_FnSpeeds.l1 : Nat → Int → List (List Int) → List Int → Int → Int → Int → Int → Int → Int → Option (Bool)
  | 0, _, _, _, _, _, _, _, _, _ => none
  | k + 1, x17, x19, x21, x23, x24, x133000, x133001, x136000, x136001 => if x24 < (x19.length : Int) then (if 0 ≤ x24 then (if ((rd_L5 x19 x24).length : Int) = 2 then (if x24 > 0 then (if 0 < ((rd_L5 x19 x24).length : Int) then (if 0 ≤ (wrap64 (x24 - 1)) then (if (wrap64 (x24 - 1)) < (x19.length : Int) then (if 0 < ((rd_L5 x19 (wrap64 (x24 - 1))).length : Int) then (if (rd (rd_L5 x19 x24) 0) ≤ (rd (rd_L5 x19 (wrap64 (x24 - 1))) 0) then (some false) else (if 1 < ((rd_L5 x19 x24).length : Int) then (laws_FnSpeeds.l1 k x17 x19 x21 (wrap64 (x23 + (rd (rd_L5 x19 x24) 1))) (wrap64 (x24 + 1)) x133000 x133001 x136000 x136001) else (none))) else (none)) else (none)) else (none)) else (none)) else (if 1 < ((rd_L5 x19 x24).length : Int) then (laws_FnSpeeds.l1 k x17 x19 x21 (wrap64 (x23 + (rd (rd_L5 x19 x24) 1))) (wrap64 (x24 + 1)) x133000 x133001 x136000 x136001) else (none))) else (some false)) else (none)) else (laws_FnSpeeds.l2 k x17 x21 x23 0 x133000 x133001 x136000 x136001)
def laws_FnSpeeds.l2 : Nat → Int → List Int → Int → Int → Int → Int → Int → Int → Option (Bool)
  | 0, _, _, _, _, _, _, _, _ => none
  | k + 1, x17, x21, x23, x25, x133000, x133001, x136000, x136001 => if x25 < x133000 then (if 0 ≤ x25 then (if x25 < (x21.length : Int) then (if (wrap64 ((rd x21 x25) * x133000)) = (wrap64 ((wrap64 (x25 * x133001)) * x17)) then (laws_FnSpeeds.l2 k x17 x21 x23 (wrap64 (x25 + 1)) x133000 x133001 x136000 x136001) else (some false)) else (none)) else (none)) else (some (x23 == (wrap64 (x133000 + x136000))))
end
def laws_FnSpeeds.f (k : Nat) (l0 : List Int) (l1 : List Int) : Option (Bool) := (laws_r8Long.f l0 l1).bind fun t129 => (if t129 = true then (some true) else ((laws_r8At.f l1 0 12).bind fun t130 => ((laws_r8At.f l1 1 8).bind fun t131 => ((laws_r8At.f l1 2 12).bind fun t133 => ((laws_r8At.f l1 3 8).bind fun t134 => ((impl_MeetCount.f k (wrap64 (1 + t130)) (wrap64 (1 + t131)) (wrap64 (1 + t133)) (wrap64 (1 + t134))).bind fun bt136 => ((impl_MeetCount.f k (wrap64 (1 + t133)) (wrap64 (1 + t134)) (wrap64 (1 + t130)) (wrap64 (1 + t131))).bind fun bt138 => ((impl_MeetCount.f k (wrap64 (1 + t130)) (wrap64 (1 + t131)) (wrap64 (1 + t133)) (wrap64 (1 + t131))).bind fun bt141 => (laws_FnSpeeds.l0 k bt136.1 bt136.2 bt138.1 bt138.2 bt141.1 bt141.2 (wrap64 (1 + t130)) (wrap64 (1 + t133)) (wrap64 (1 + t130)) (wrap64 (1 + t131)) (wrap64 (1 + t133)) (wrap64 (1 + t134)))))))))))
theorem laws_FnSpeeds.mono_l : ∀ k, (∀ y0 y1 y2 y3 y4 y5 y6 y7 y8 y9 y10 y11, LeO (laws_FnSpeeds.l0 k y0 y1 y2 y3 y4 y5 y6 y7 y8 y9 y10 y11) (laws_FnSpeeds.l0 (k + 1) y0 y1 y2 y3 y4 y5 y6 y7 y8 y9 y10 y11)) ∧ (∀ y0 y1 y2 y3 y4 y5, LeO (laws_FnSpeeds.j1 k y0 y1 y2 y3 y4 y5) (laws_FnSpeeds.j1 (k + 1) y0 y1 y2 y3 y4 y5)) ∧ (∀ y0 y1 y2 y3 y4 y5 y6 y7, LeO (laws_FnSpeeds.j2 k y0 y1 y2 y3 y4 y5 y6 y7) (laws_FnSpeeds.j2 (k + 1) y0 y1 y2 y3 y4 y5 y6 y7)) ∧ (∀ y0 y1 y2 y3 y4 y5 y6 y7 y8, LeO (laws_FnSpeeds.l1 k y0 y1 y2 y3 y4 y5 y6 y7 y8) (laws_FnSpeeds.l1 (k + 1) y0 y1 y2 y3 y4 y5 y6 y7 y8)) ∧ (∀ y0 y1 y2 y3 y4 y5 y6 y7, LeO (laws_FnSpeeds.l2 k y0 y1 y2 y3 y4 y5 y6 y7) (laws_FnSpeeds.l2 (k + 1) y0 y1 y2 y3 y4 y5 y6 y7))
  | 0 => ⟨fun _ _ _ _ _ _ _ _ _ _ _ _ r h => by simp [laws_FnSpeeds.l0] at h, fun _ _ _ _ _ _ r h => by simp [laws_FnSpeeds.j1] at h, fun _ _ _ _ _ _ _ _ r h => by simp [laws_FnSpeeds.j2] at h, fun _ _ _ _ _ _ _ _ _ r h => by simp [laws_FnSpeeds.l1] at h, fun _ _ _ _ _ _ _ _ r h => by simp [laws_FnSpeeds.l2] at h⟩
  | k + 1 => by
    obtain ⟨ih0, ih1, ih2, ih3, ih4⟩ := laws_FnSpeeds.mono_l k
    refine ⟨?_, ?_, ?_, ?_, ?_⟩
    · intro y0 y1 y2 y3 y4 y5 y6 y7 y8 y9 y10 y11
      unfold laws_FnSpeeds.l0
      repeat' first
      | (with_reducible exact ih0 _ _ _ _ _ _ _ _ _ _ _ _)
      | (with_reducible exact ih1 _ _ _ _ _ _)
      | (with_reducible exact ih2 _ _ _ _ _ _ _ _)
      | (with_reducible exact ih3 _ _ _ _ _ _ _ _ _)
      | (with_reducible exact ih4 _ _ _ _ _ _ _ _)
      | (with_reducible exact impl_HitTicks.mono _ _ _ _)
      | (with_reducible exact impl_MeetCount.mono _ _ _ _ _)
      | (with_reducible exact impl_MergeLayers.mono _ _)
      | (with_reducible exact impl_TicksFor.mono _ _)
      | (with_reducible exact LeO.refl _)
      | (with_reducible exact LeO.none _)
      | (with_reducible refine LeO.ite ?_ ?_)
      | (with_reducible refine LeO.bind ?_ (fun _ => ?_))
      | exact ih0 _ _ _ _ _ _ _ _ _ _ _ _
      | exact ih1 _ _ _ _ _ _
      | exact ih2 _ _ _ _ _ _ _ _
      | exact ih3 _ _ _ _ _ _ _ _ _
      | exact ih4 _ _ _ _ _ _ _ _
      | exact impl_HitTicks.mono _ _ _ _
      | exact impl_MeetCount.mono _ _ _ _ _
      | exact impl_MergeLayers.mono _ _
      | exact impl_TicksFor.mono _ _
      | exact LeO.none _
      | refine LeO.ite ?_ ?_
      | refine LeO.bind ?_ (fun _ => ?_)
    · intro y0 y1 y2 y3 y4 y5
      unfold laws_FnSpeeds.j1
      repeat' first
      | (with_reducible exact ih0 _ _ _ _ _ _ _ _ _ _ _ _)
      | (with_reducible exact ih1 _ _ _ _ _ _)
      | (with_reducible exact ih2 _ _ _ _ _ _ _ _)
      | (with_reducible exact ih3 _ _ _ _ _ _ _ _ _)
      | (with_reducible exact ih4 _ _ _ _ _ _ _ _)
      | (with_reducible exact impl_HitTicks.mono _ _ _ _)
      | (with_reducible exact impl_MeetCount.mono _ _ _ _ _)
      | (with_reducible exact impl_MergeLayers.mono _ _)
      | (with_reducible exact impl_TicksFor.mono _ _)
      | (with_reducible exact LeO.refl _)
      | (with_reducible exact LeO.none _)
      | (with_reducible refine LeO.ite ?_ ?_)
      | (with_reducible refine LeO.bind ?_ (fun _ => ?_))
      | exact ih0 _ _ _ _ _ _ _ _ _ _ _ _
      | exact ih1 _ _ _ _ _ _
      | exact ih2 _ _ _ _ _ _ _ _
      | exact ih3 _ _ _ _ _ _ _ _ _
      | exact ih4 _ _ _ _ _ _ _ _
      | exact impl_HitTicks.mono _ _ _ _
      | exact impl_MeetCount.mono _ _ _ _ _
      | exact impl_MergeLayers.mono _ _
      | exact impl_TicksFor.mono _ _
      | exact LeO.none _
      | refine LeO.ite ?_ ?_
      | refine LeO.bind ?_ (fun _ => ?_)
    · intro y0 y1 y2 y3 y4 y5 y6 y7
      unfold laws_FnSpeeds.j2
      repeat' first
      | (with_reducible exact ih0 _ _ _ _ _ _ _ _ _ _ _ _)
      | (with_reducible exact ih1 _ _ _ _ _ _)
      | (with_reducible exact ih2 _ _ _ _ _ _ _ _)
      | (with_reducible exact ih3 _ _ _ _ _ _ _ _ _)
      | (with_reducible exact ih4 _ _ _ _ _ _ _ _)
      | (with_reducible exact impl_HitTicks.mono _ _ _ _)
      | (with_reducible exact impl_MeetCount.mono _ _ _ _ _)
      | (with_reducible exact impl_MergeLayers.mono _ _)
      | (with_reducible exact impl_TicksFor.mono _ _)
      | (with_reducible exact LeO.refl _)
      | (with_reducible exact LeO.none _)
      | (with_reducible refine LeO.ite ?_ ?_)
      | (with_reducible refine LeO.bind ?_ (fun _ => ?_))
      | exact ih0 _ _ _ _ _ _ _ _ _ _ _ _
      | exact ih1 _ _ _ _ _ _
      | exact ih2 _ _ _ _ _ _ _ _
      | exact ih3 _ _ _ _ _ _ _ _ _
      | exact ih4 _ _ _ _ _ _ _ _
      | exact impl_HitTicks.mono _ _ _ _
      | exact impl_MeetCount.mono _ _ _ _ _
      | exact impl_MergeLayers.mono _ _
      | exact impl_TicksFor.mono _ _
      | exact LeO.none _
      | refine LeO.ite ?_ ?_
      | refine LeO.bind ?_ (fun _ => ?_)
    · intro y0 y1 y2 y3 y4 y5 y6 y7 y8
      unfold laws_FnSpeeds.l1
      repeat' first
      | (with_reducible exact ih0 _ _ _ _ _ _ _ _ _ _ _ _)
      | (with_reducible exact ih1 _ _ _ _ _ _)
      | (with_reducible exact ih2 _ _ _ _ _ _ _ _)
      | (with_reducible exact ih3 _ _ _ _ _ _ _ _ _)
      | (with_reducible exact ih4 _ _ _ _ _ _ _ _)
      | (with_reducible exact impl_HitTicks.mono _ _ _ _)
      | (with_reducible exact impl_MeetCount.mono _ _ _ _ _)
      | (with_reducible exact impl_MergeLayers.mono _ _)
      | (with_reducible exact impl_TicksFor.mono _ _)
      | (with_reducible exact LeO.refl _)
      | (with_reducible exact LeO.none _)
      | (with_reducible refine LeO.ite ?_ ?_)
      | (with_reducible refine LeO.bind ?_ (fun _ => ?_))
      | exact ih0 _ _ _ _ _ _ _ _ _ _ _ _
      | exact ih1 _ _ _ _ _ _
      | exact ih2 _ _ _ _ _ _ _ _
      | exact ih3 _ _ _ _ _ _ _ _ _
      | exact ih4 _ _ _ _ _ _ _ _
      | exact impl_HitTicks.mono _ _ _ _
      | exact impl_MeetCount.mono _ _ _ _ _
      | exact impl_MergeLayers.mono _ _
      | exact impl_TicksFor.mono _ _
      | exact LeO.none _
      | refine LeO.ite ?_ ?_
      | refine LeO.bind ?_ (fun _ => ?_)
    · intro y0 y1 y2 y3 y4 y5 y6 y7
      unfold laws_FnSpeeds.l2
      repeat' first
      | (with_reducible exact ih0 _ _ _ _ _ _ _ _ _ _ _ _)
      | (with_reducible exact ih1 _ _ _ _ _ _)
      | (with_reducible exact ih2 _ _ _ _ _ _ _ _)
      | (with_reducible exact ih3 _ _ _ _ _ _ _ _ _)
      | (with_reducible exact ih4 _ _ _ _ _ _ _ _)
      | (with_reducible exact impl_HitTicks.mono _ _ _ _)
      | (with_reducible exact impl_MeetCount.mono _ _ _ _ _)
      | (with_reducible exact impl_MergeLayers.mono _ _)
      | (with_reducible exact impl_TicksFor.mono _ _)
      | (with_reducible exact LeO.refl _)
      | (with_reducible exact LeO.none _)
      | (with_reducible refine LeO.ite ?_ ?_)
      | (with_reducible refine LeO.bind ?_ (fun _ => ?_))
      | exact ih0 _ _ _ _ _ _ _ _ _ _ _ _
      | exact ih1 _ _ _ _ _ _
      | exact ih2 _ _ _ _ _ _ _ _
      | exact ih3 _ _ _ _ _ _ _ _ _
      | exact ih4 _ _ _ _ _ _ _ _
      | exact impl_HitTicks.mono _ _ _ _
      | exact impl_MeetCount.mono _ _ _ _ _
      | exact impl_MergeLayers.mono _ _
      | exact impl_TicksFor.mono _ _
      | exact LeO.none _
      | refine LeO.ite ?_ ?_
      | refine LeO.bind ?_ (fun _ => ?_)
theorem laws_FnSpeeds.mono : ∀ a0 a1 k, LeO (laws_FnSpeeds.f k a0 a1) (laws_FnSpeeds.f (k + 1) a0 a1) := by
  intro a0 a1 k
  obtain ⟨ih0, ih1, ih2, ih3, ih4⟩ := laws_FnSpeeds.mono_l k
  unfold laws_FnSpeeds.f
  repeat' first
      | (with_reducible exact ih0 _ _ _ _ _ _ _ _ _ _ _ _)
      | (with_reducible exact ih1 _ _ _ _ _ _)
      | (with_reducible exact ih2 _ _ _ _ _ _ _ _)
      | (with_reducible exact ih3 _ _ _ _ _ _ _ _ _)
      | (with_reducible exact ih4 _ _ _ _ _ _ _ _)
      | (with_reducible exact impl_HitTicks.mono _ _ _ _)
      | (with_reducible exact impl_MeetCount.mono _ _ _ _ _)
      | (with_reducible exact impl_MergeLayers.mono _ _)
      | (with_reducible exact impl_TicksFor.mono _ _)
      | (with_reducible exact LeO.refl _)
      | (with_reducible exact LeO.none _)
      | (with_reducible refine LeO.ite ?_ ?_)
      | (with_reducible refine LeO.bind ?_ (fun _ => ?_))
      | exact ih0 _ _ _ _ _ _ _ _ _ _ _ _
      | exact ih1 _ _ _ _ _ _
      | exact ih2 _ _ _ _ _ _ _ _
      | exact ih3 _ _ _ _ _ _ _ _ _
      | exact ih4 _ _ _ _ _ _ _ _
      | exact impl_HitTicks.mono _ _ _ _
      | exact impl_MeetCount.mono _ _ _ _ _
      | exact impl_MergeLayers.mono _ _
      | exact impl_TicksFor.mono _ _
      | exact LeO.none _
      | refine LeO.ite ?_ ?_
      | refine LeO.bind ?_ (fun _ => ?_)
set_option maxHeartbeats 8000000 in
set_option maxRecDepth 100000 in
theorem laws_FnSpeeds.calls (k : Nat) (A0 : Option Addr) (c0 : Nat) (l0 : List Int) (A1 : Option Addr) (c1 : Nat) (l1 : List Int) (r : Bool) (w : World) (hr0 : Kd.C (Kd.int .u8) w A0 l0.length l0) (hc0 : l0.length ≤ c0) (hr1 : Kd.C (Kd.int .u8) w A1 l1.length l1) (hc1 : l1.length ≤ c1) (h : laws_FnSpeeds.f k l0 l1 = some r) :
    Calls Try.prog 3 #[.slice A0 l0.length c0, .slice A1 l1.length c1] w fun e w' => e = .returned (.bool r) ∧ Below w.heap.size w w' := by
  have hu26 := Try.underlying26
  have HR0 := Aside0.mk hr0
  have HC0 := Aside0.mk hc0
  clear hr0 hc0
  have HR1 := Aside0.mk hr1
  have HC1 := Aside0.mk hc1
  clear hr1 hc1
  have HB := Aside0.mk (Below.refl w.heap.size w)
  have H : ((laws_r8Long.f l0 l1).bind fun t129 => (if t129 = true then (some true) else ((laws_r8At.f l1 0 12).bind fun t130 => ((laws_r8At.f l1 1 8).bind fun t131 => ((laws_r8At.f l1 2 12).bind fun t133 => ((laws_r8At.f l1 3 8).bind fun t134 => ((impl_MeetCount.f k (wrap64 (1 + t130)) (wrap64 (1 + t131)) (wrap64 (1 + t133)) (wrap64 (1 + t134))).bind fun bt136 => ((impl_MeetCount.f k (wrap64 (1 + t133)) (wrap64 (1 + t134)) (wrap64 (1 + t130)) (wrap64 (1 + t131))).bind fun bt138 => ((impl_MeetCount.f k (wrap64 (1 + t130)) (wrap64 (1 + t131)) (wrap64 (1 + t133)) (wrap64 (1 + t131))).bind fun bt141 => (laws_FnSpeeds.l0 k bt136.1 bt136.2 bt138.1 bt138.2 bt141.1 bt141.2 (wrap64 (1 + t130)) (wrap64 (1 + t133)) (wrap64 (1 + t130)) (wrap64 (1 + t131)) (wrap64 (1 + t133)) (wrap64 (1 + t134)))))))))))) = some r := h
  clear h
  replace H := Option.bind_eq_some_iff.mp H
  obtain ⟨t129, A30, H⟩ := H
  replace H : (if t129 = true then (some true) else ((laws_r8At.f l1 0 12).bind fun t130 => ((laws_r8At.f l1 1 8).bind fun t131 => ((laws_r8At.f l1 2 12).bind fun t133 => ((laws_r8At.f l1 3 8).bind fun t134 => ((impl_MeetCount.f k (wrap64 (1 + t130)) (wrap64 (1 + t131)) (wrap64 (1 + t133)) (wrap64 (1 + t134))).bind fun bt136 => ((impl_MeetCount.f k (wrap64 (1 + t133)) (wrap64 (1 + t134)) (wrap64 (1 + t130)) (wrap64 (1 + t131))).bind fun bt138 => ((impl_MeetCount.f k (wrap64 (1 + t130)) (wrap64 (1 + t131)) (wrap64 (1 + t133)) (wrap64 (1 + t131))).bind fun bt141 => (laws_FnSpeeds.l0 k bt136.1 bt136.2 bt138.1 bt138.2 bt141.1 bt141.2 (wrap64 (1 + t130)) (wrap64 (1 + t133)) (wrap64 (1 + t130)) (wrap64 (1 + t131)) (wrap64 (1 + t133)) (wrap64 (1 + t134))))))))))) = some r := H
  have A3 := Aside0.mk A30
  clear A30
  by_cases c4 : t129 = true
  · subst c4
    have H1 : (some true) = some r := by rw [if_pos rfl] at H; exact H
    clear H
    have H := H1
    clear H1
    obtain rfl := Option.some.inj H
    go_enter Try.func3, Try.ntmps3
    go_wp2_with (first | (go_at_call 5; (with_reducible refine (laws_r8Long.calls _ _ l0 _ _ l1 true _ ?side1 ?side2 ?side3 ?side4 A3.out).mono ?_); (case side1 => repeat (first | exact HR0.out | (with_reducible refine Kd.C_alloc ?_ _) | (with_reducible refine Kd.C_drewN ?_ _) | (with_reducible refine Kd.C_drew ?_))); (case side2 => exact HC0.out); (case side3 => repeat (first | exact HR1.out | (with_reducible refine Kd.C_alloc ?_ _) | (with_reducible refine Kd.C_drewN ?_ _) | (with_reducible refine Kd.C_drew ?_))); (case side4 => exact HC1.out); rintro e w' ⟨rfl, ⟨nd, rfl⟩⟩; (try first | exact ⟨rfl, _, World.drewN_drewN _ _ _⟩ | exact ⟨rfl, _, Eq.trans (World.drewN_drewN _ _ _) (congrArg (World.drewN _) (Nat.add_assoc _ _ _))⟩)))
    repeat (go_quiet (first | (go_at_call 5; (with_reducible refine (laws_r8Long.calls _ _ l0 _ _ l1 true _ ?side1 ?side2 ?side3 ?side4 A3.out).mono ?_); (case side1 => repeat (first | exact HR0.out | (with_reducible refine Kd.C_alloc ?_ _) | (with_reducible refine Kd.C_drewN ?_ _) | (with_reducible refine Kd.C_drew ?_))); (case side2 => exact HC0.out); (case side3 => repeat (first | exact HR1.out | (with_reducible refine Kd.C_alloc ?_ _) | (with_reducible refine Kd.C_drewN ?_ _) | (with_reducible refine Kd.C_drew ?_))); (case side4 => exact HC1.out); rintro e w' ⟨rfl, ⟨nd, rfl⟩⟩; (try first | exact ⟨rfl, _, World.drewN_drewN _ _ _⟩ | exact ⟨rfl, _, Eq.trans (World.drewN_drewN _ _ _) (congrArg (World.drewN _) (Nat.add_assoc _ _ _))⟩))); try go_wp2_with (first | (go_at_call 5; (with_reducible refine (laws_r8Long.calls _ _ l0 _ _ l1 true _ ?side1 ?side2 ?side3 ?side4 A3.out).mono ?_); (case side1 => repeat (first | exact HR0.out | (with_reducible refine Kd.C_alloc ?_ _) | (with_reducible refine Kd.C_drewN ?_ _) | (with_reducible refine Kd.C_drew ?_))); (case side2 => exact HC0.out); (case side3 => repeat (first | exact HR1.out | (with_reducible refine Kd.C_alloc ?_ _) | (with_reducible refine Kd.C_drewN ?_ _) | (with_reducible refine Kd.C_drew ?_))); (case side4 => exact HC1.out); rintro e w' ⟨rfl, ⟨nd, rfl⟩⟩; (try first | exact ⟨rfl, _, World.drewN_drewN _ _ _⟩ | exact ⟨rfl, _, Eq.trans (World.drewN_drewN _ _ _) (congrArg (World.drewN _) (Nat.add_assoc _ _ _))⟩))))
    go_ret
    exact ⟨by first | rfl | (simp [errW_none, errW_some] <;> rfl) | (simp [*, errW_none, errW_some] <;> rfl), by repeat (first | (with_reducible first | exact HB.out | apply below_alloc | apply pw_below_drewN | apply below_drew1) | exact HB.out)⟩
  · replace c4 := Bool.eq_false_iff.mpr c4
    subst c4
    have H1 : ((laws_r8At.f l1 0 12).bind fun t130 => ((laws_r8At.f l1 1 8).bind fun t131 => ((laws_r8At.f l1 2 12).bind fun t133 => ((laws_r8At.f l1 3 8).bind fun t134 => ((impl_MeetCount.f k (wrap64 (1 + t130)) (wrap64 (1 + t131)) (wrap64 (1 + t133)) (wrap64 (1 + t134))).bind fun bt136 => ((impl_MeetCount.f k (wrap64 (1 + t133)) (wrap64 (1 + t134)) (wrap64 (1 + t130)) (wrap64 (1 + t131))).bind fun bt138 => ((impl_MeetCount.f k (wrap64 (1 + t130)) (wrap64 (1 + t131)) (wrap64 (1 + t133)) (wrap64 (1 + t131))).bind fun bt141 => (laws_FnSpeeds.l0 k bt136.1 bt136.2 bt138.1 bt138.2 bt141.1 bt141.2 (wrap64 (1 + t130)) (wrap64 (1 + t133)) (wrap64 (1 + t130)) (wrap64 (1 + t131)) (wrap64 (1 + t133)) (wrap64 (1 + t134)))))))))) = some r := by rw [if_neg (show ¬ (false = true) by decide)] at H; exact H
    clear H
    have H := H1
    clear H1
    replace H := Option.bind_eq_some_iff.mp H
    obtain ⟨t130, A50, H⟩ := H
    replace H : ((laws_r8At.f l1 1 8).bind fun t131 => ((laws_r8At.f l1 2 12).bind fun t133 => ((laws_r8At.f l1 3 8).bind fun t134 => ((impl_MeetCount.f k (wrap64 (1 + t130)) (wrap64 (1 + t131)) (wrap64 (1 + t133)) (wrap64 (1 + t134))).bind fun bt136 => ((impl_MeetCount.f k (wrap64 (1 + t133)) (wrap64 (1 + t134)) (wrap64 (1 + t130)) (wrap64 (1 + t131))).bind fun bt138 => ((impl_MeetCount.f k (wrap64 (1 + t130)) (wrap64 (1 + t131)) (wrap64 (1 + t133)) (wrap64 (1 + t131))).bind fun bt141 => (laws_FnSpeeds.l0 k bt136.1 bt136.2 bt138.1 bt138.2 bt141.1 bt141.2 (wrap64 (1 + t130)) (wrap64 (1 + t133)) (wrap64 (1 + t130)) (wrap64 (1 + t131)) (wrap64 (1 + t133)) (wrap64 (1 + t134))))))))) = some r := H
    have A5 := Aside0.mk A50
    clear A50
    replace H := Option.bind_eq_some_iff.mp H
    obtain ⟨t131, A60, H⟩ := H
    replace H : ((laws_r8At.f l1 2 12).bind fun t133 => ((laws_r8At.f l1 3 8).bind fun t134 => ((impl_MeetCount.f k (wrap64 (1 + t130)) (wrap64 (1 + t131)) (wrap64 (1 + t133)) (wrap64 (1 + t134))).bind fun bt136 => ((impl_MeetCount.f k (wrap64 (1 + t133)) (wrap64 (1 + t134)) (wrap64 (1 + t130)) (wrap64 (1 + t131))).bind fun bt138 => ((impl_MeetCount.f k (wrap64 (1 + t130)) (wrap64 (1 + t131)) (wrap64 (1 + t133)) (wrap64 (1 + t131))).bind fun bt141 => (laws_FnSpeeds.l0 k bt136.1 bt136.2 bt138.1 bt138.2 bt141.1 bt141.2 (wrap64 (1 + t130)) (wrap64 (1 + t133)) (wrap64 (1 + t130)) (wrap64 (1 + t131)) (wrap64 (1 + t133)) (wrap64 (1 + t134)))))))) = some r := H
    have A6 := Aside0.mk A60
    clear A60
    replace H := Option.bind_eq_some_iff.mp H
    obtain ⟨t133, A70, H⟩ := H
    replace H : ((laws_r8At.f l1 3 8).bind fun t134 => ((impl_MeetCount.f k (wrap64 (1 + t130)) (wrap64 (1 + t131)) (wrap64 (1 + t133)) (wrap64 (1 + t134))).bind fun bt136 => ((impl_MeetCount.f k (wrap64 (1 + t133)) (wrap64 (1 + t134)) (wrap64 (1 + t130)) (wrap64 (1 + t131))).bind fun bt138 => ((impl_MeetCount.f k (wrap64 (1 + t130)) (wrap64 (1 + t131)) (wrap64 (1 + t133)) (wrap64 (1 + t131))).bind fun bt141 => (laws_FnSpeeds.l0 k bt136.1 bt136.2 bt138.1 bt138.2 bt141.1 bt141.2 (wrap64 (1 + t130)) (wrap64 (1 + t133)) (wrap64 (1 + t130)) (wrap64 (1 + t131)) (wrap64 (1 + t133)) (wrap64 (1 + t134))))))) = some r := H
    have A7 := Aside0.mk A70
    clear A70
    replace H := Option.bind_eq_some_iff.mp H
    obtain ⟨t134, A80, H⟩ := H
    replace H : ((impl_MeetCount.f k (wrap64 (1 + t130)) (wrap64 (1 + t131)) (wrap64 (1 + t133)) (wrap64 (1 + t134))).bind fun bt136 => ((impl_MeetCount.f k (wrap64 (1 + t133)) (wrap64 (1 + t134)) (wrap64 (1 + t130)) (wrap64 (1 + t131))).bind fun bt138 => ((impl_MeetCount.f k (wrap64 (1 + t130)) (wrap64 (1 + t131)) (wrap64 (1 + t133)) (wrap64 (1 + t131))).bind fun bt141 => (laws_FnSpeeds.l0 k bt136.1 bt136.2 bt138.1 bt138.2 bt141.1 bt141.2 (wrap64 (1 + t130)) (wrap64 (1 + t133)) (wrap64 (1 + t130)) (wrap64 (1 + t131)) (wrap64 (1 + t133)) (wrap64 (1 + t134)))))) = some r := H
    have A8 := Aside0.mk A80
    clear A80
    replace H := Option.bind_eq_some_iff.mp H
    obtain ⟨⟨t136, t137⟩, A90, H⟩ := H
    replace H : ((impl_MeetCount.f k (wrap64 (1 + t133)) (wrap64 (1 + t134)) (wrap64 (1 + t130)) (wrap64 (1 + t131))).bind fun bt138 => ((impl_MeetCount.f k (wrap64 (1 + t130)) (wrap64 (1 + t131)) (wrap64 (1 + t133)) (wrap64 (1 + t131))).bind fun bt141 => (laws_FnSpeeds.l0 k t136 t137 bt138.1 bt138.2 bt141.1 bt141.2 (wrap64 (1 + t130)) (wrap64 (1 + t133)) (wrap64 (1 + t130)) (wrap64 (1 + t131)) (wrap64 (1 + t133)) (wrap64 (1 + t134))))) = some r := H
    have A9 := Aside0.mk A90
    clear A90
    replace H := Option.bind_eq_some_iff.mp H
    obtain ⟨⟨t138, t139⟩, A100, H⟩ := H
    replace H : ((impl_MeetCount.f k (wrap64 (1 + t130)) (wrap64 (1 + t131)) (wrap64 (1 + t133)) (wrap64 (1 + t131))).bind fun bt141 => (laws_FnSpeeds.l0 k t136 t137 t138 t139 bt141.1 bt141.2 (wrap64 (1 + t130)) (wrap64 (1 + t133)) (wrap64 (1 + t130)) (wrap64 (1 + t131)) (wrap64 (1 + t133)) (wrap64 (1 + t134)))) = some r := H
    have A10 := Aside0.mk A100
    clear A100
    replace H := Option.bind_eq_some_iff.mp H
    obtain ⟨⟨t141, t142⟩, A110, H⟩ := H
    replace H : (laws_FnSpeeds.l0 k t136 t137 t138 t139 t141 t142 (wrap64 (1 + t130)) (wrap64 (1 + t133)) (wrap64 (1 + t130)) (wrap64 (1 + t131)) (wrap64 (1 + t133)) (wrap64 (1 + t134))) = some r := H
    have A11 := Aside0.mk A110
    clear A110
    have H' := Aside0.mk H
    clear H
    go_enter Try.func3, Try.ntmps3
    go_wp2_with (first | (go_at_call 5; (with_reducible refine (laws_r8Long.calls _ _ l0 _ _ l1 false _ ?side1 ?side2 ?side3 ?side4 A3.out).mono ?_); (case side1 => repeat (first | exact HR0.out | (with_reducible refine Kd.C_alloc ?_ _) | (with_reducible refine Kd.C_drewN ?_ _) | (with_reducible refine Kd.C_drew ?_))); (case side2 => exact HC0.out); (case side3 => repeat (first | exact HR1.out | (with_reducible refine Kd.C_alloc ?_ _) | (with_reducible refine Kd.C_drewN ?_ _) | (with_reducible refine Kd.C_drew ?_))); (case side4 => exact HC1.out); rintro e w' ⟨rfl, ⟨nd, rfl⟩⟩; (try first | exact ⟨rfl, _, World.drewN_drewN _ _ _⟩ | exact ⟨rfl, _, Eq.trans (World.drewN_drewN _ _ _) (congrArg (World.drewN _) (Nat.add_assoc _ _ _))⟩)) | (go_at_call 6; (with_reducible refine (laws_r8At.calls _ _ l1 0 12 t130 _ ?side1 ?side2 A5.out).mono ?_); (case side1 => repeat (first | exact HR1.out | (with_reducible refine Kd.C_alloc ?_ _) | (with_reducible refine Kd.C_drewN ?_ _) | (with_reducible refine Kd.C_drew ?_))); (case side2 => exact HC1.out); rintro e w' ⟨rfl, ⟨nd, rfl⟩⟩; (try first | exact ⟨rfl, _, World.drewN_drewN _ _ _⟩ | exact ⟨rfl, _, Eq.trans (World.drewN_drewN _ _ _) (congrArg (World.drewN _) (Nat.add_assoc _ _ _))⟩)) | (go_at_call 6; (with_reducible refine (laws_r8At.calls _ _ l1 1 8 t131 _ ?side1 ?side2 A6.out).mono ?_); (case side1 => repeat (first | exact HR1.out | (with_reducible refine Kd.C_alloc ?_ _) | (with_reducible refine Kd.C_drewN ?_ _) | (with_reducible refine Kd.C_drew ?_))); (case side2 => exact HC1.out); rintro e w' ⟨rfl, ⟨nd, rfl⟩⟩; (try first | exact ⟨rfl, _, World.drewN_drewN _ _ _⟩ | exact ⟨rfl, _, Eq.trans (World.drewN_drewN _ _ _) (congrArg (World.drewN _) (Nat.add_assoc _ _ _))⟩)) | ((with_reducible refine gate_dst (N := 5) rfl ?_); (try (refine gate_guard (by rfl) ?_; dsimp only)); refine box_event ?hg (N := 5) ?hd (cs := #[.int .i64 0, .int .i64 0]) (t := 26) ?hr ?_; (case hd => rfl); (case hg => rfl); (case hr => first | (go_simp; done) | (go_simp; rfl)); intro gb132 hg w12 hbox hb; have n0_ := Aside0.mk (below_step (by repeat (first | (with_reducible first | exact HB.out | apply below_alloc | apply pw_below_drewN | apply below_drew1) | exact HB.out)) hb); have n1_ := Aside0.mk (hbox); have n2_ := Aside0.mk ((by rw [hg]; exact (below_size (by repeat (first | (with_reducible first | exact HB.out | apply below_alloc | apply pw_below_drewN | apply below_drew1) | exact HB.out))) : w.heap.size ≤ gb132)); have n3_ := Aside0.mk ((by rw [hg]; exact (below_size (by repeat (first | (with_reducible first | exact HB.out | apply below_alloc | apply pw_below_drewN | apply below_drew1) | exact HB.out))) : w.heap.size ≤ gb132)); clear HB; have HB := n0_; have BK132 := n1_; have GW132 := n2_; have GE132 := n3_; clear n0_ n1_ n2_ n3_; clear hb hbox hg; have hcz13_0 : w12.cell? ⟨gb132, 0, none⟩ = some (.int .i64 0) := (blk_cell BK132.out 0).trans rfl; have hcz13_1 : w12.cell? ⟨gb132, 1, none⟩ = some (.int .i64 0) := (blk_cell BK132.out 1).trans rfl; have hfz13_0 := blk_frozen BK132.out 0; have hfz13_1 := blk_frozen BK132.out 1) | (go_at_call 6; (with_reducible refine (laws_r8At.calls _ _ l1 2 12 t133 _ ?side1 ?side2 A7.out).mono ?_); (case side1 => exact Kd.C_below HR1.out (by repeat (first | (with_reducible first | exact HB.out | apply below_alloc | apply pw_below_drewN | apply below_drew1 | refine below_set ?_ GE132.out) | exact HB.out))); (case side2 => exact HC1.out); rintro e w' ⟨rfl, ⟨nd, rfl⟩⟩; (try first | exact ⟨rfl, _, World.drewN_drewN _ _ _⟩ | exact ⟨rfl, _, Eq.trans (World.drewN_drewN _ _ _) (congrArg (World.drewN _) (Nat.add_assoc _ _ _))⟩)) | (go_at_call 6; (with_reducible refine (laws_r8At.calls _ _ l1 3 8 t134 _ ?side1 ?side2 A8.out).mono ?_); (case side1 => exact Kd.C_below HR1.out (by repeat (first | (with_reducible first | exact HB.out | apply below_alloc | apply pw_below_drewN | apply below_drew1 | refine below_set ?_ GE132.out) | exact HB.out))); (case side2 => exact HC1.out); rintro e w' ⟨rfl, ⟨nd, rfl⟩⟩; (try first | exact ⟨rfl, _, World.drewN_drewN _ _ _⟩ | exact ⟨rfl, _, Eq.trans (World.drewN_drewN _ _ _) (congrArg (World.drewN _) (Nat.add_assoc _ _ _))⟩)) | ((with_reducible refine gate_dst (N := 6) rfl ?_); (try (refine gate_guard (by rfl) ?_; dsimp only)); refine box_event ?hg (N := 6) ?hd (cs := #[.int .i64 0, .int .i64 0]) (t := 26) ?hr ?_; (case hd => rfl); (case hg => rfl); (case hr => first | (go_simp; done) | (go_simp; rfl)); intro gb135 hg w14 hbox hb; have n0_ := Aside0.mk (blk_below (g := gb132) (o := .cells #[.int .i64 (wrap64 (1 + t130)), .int .i64 (wrap64 (1 + t131))] 26 (0, 0)) (by (with_reducible repeat (first | refine blk_drewN ?_ _ | refine blk_drew ?_ | refine blk_alloc ?_ _)); refine blk_put (cs := #[.int .i64 (wrap64 (1 + t130)), .int .i64 0]) ?_ 1 _ rfl; (with_reducible repeat (first | refine blk_drewN ?_ _ | refine blk_drew ?_ | refine blk_alloc ?_ _)); refine blk_put (cs := #[.int .i64 0, .int .i64 0]) ?_ 0 _ rfl; (with_reducible repeat (first | refine blk_drewN ?_ _ | refine blk_drew ?_ | refine blk_alloc ?_ _)); exact BK132.out) hb); have n1_ := Aside0.mk (below_step (by repeat (first | (with_reducible first | exact HB.out | apply below_alloc | apply pw_below_drewN | apply below_drew1 | refine below_set ?_ GE132.out) | exact HB.out)) hb); have n2_ := Aside0.mk (hbox); have n3_ := Aside0.mk ((by rw [hg]; exact (below_size (by repeat (first | (with_reducible first | exact HB.out | apply below_alloc | apply pw_below_drewN | apply below_drew1 | refine below_set ?_ GE132.out) | exact HB.out))) : w.heap.size ≤ gb135)); have n4_ := Aside0.mk ((by rw [hg]; exact (below_size (by repeat (first | (with_reducible first | exact HB.out | apply below_alloc | apply pw_below_drewN | apply below_drew1 | refine below_set ?_ GE132.out) | exact HB.out))) : w.heap.size ≤ gb135)); have n5_ := Aside0.mk ((by rw [hg]; exact Nat.ne_of_lt (blk_lt (g := gb132) (o := .cells #[.int .i64 (wrap64 (1 + t130)), .int .i64 (wrap64 (1 + t131))] 26 (0, 0)) (by (with_reducible repeat (first | refine blk_drewN ?_ _ | refine blk_drew ?_ | refine blk_alloc ?_ _)); refine blk_put (cs := #[.int .i64 (wrap64 (1 + t130)), .int .i64 0]) ?_ 1 _ rfl; (with_reducible repeat (first | refine blk_drewN ?_ _ | refine blk_drew ?_ | refine blk_alloc ?_ _)); refine blk_put (cs := #[.int .i64 0, .int .i64 0]) ?_ 0 _ rfl; (with_reducible repeat (first | refine blk_drewN ?_ _ | refine blk_drew ?_ | refine blk_alloc ?_ _)); exact BK132.out)) : gb132 ≠ gb135)); have n6_ := Aside0.mk ((by rw [hg]; exact Nat.ne_of_gt (blk_lt (g := gb132) (o := .cells #[.int .i64 (wrap64 (1 + t130)), .int .i64 (wrap64 (1 + t131))] 26 (0, 0)) (by (with_reducible repeat (first | refine blk_drewN ?_ _ | refine blk_drew ?_ | refine blk_alloc ?_ _)); refine blk_put (cs := #[.int .i64 (wrap64 (1 + t130)), .int .i64 0]) ?_ 1 _ rfl; (with_reducible repeat (first | refine blk_drewN ?_ _ | refine blk_drew ?_ | refine blk_alloc ?_ _)); refine blk_put (cs := #[.int .i64 0, .int .i64 0]) ?_ 0 _ rfl; (with_reducible repeat (first | refine blk_drewN ?_ _ | refine blk_drew ?_ | refine blk_alloc ?_ _)); exact BK132.out)) : gb135 ≠ gb132)); clear BK132; clear HB; have BK132 := n0_; have HB := n1_; have BK135 := n2_; have GW135 := n3_; have GE135 := n4_; have NB132_135 := n5_; have NB135_132 := n6_; clear n0_ n1_ n2_ n3_ n4_ n5_ n6_; clear hb hbox hg; have hnb15 := NB135_132.out; have hnc15 := NB132_135.out; have hcz16_0 : w14.cell? ⟨gb135, 0, none⟩ = some (.int .i64 0) := (blk_cell BK135.out 0).trans rfl; have hcz16_1 : w14.cell? ⟨gb135, 1, none⟩ = some (.int .i64 0) := (blk_cell BK135.out 1).trans rfl; have hfz16_0 := blk_frozen BK135.out 0; have hfz16_1 := blk_frozen BK135.out 1; have hcz17_0 : w14.cell? ⟨gb132, 0, none⟩ = some (.int .i64 (wrap64 (1 + t130))) := (blk_cell BK132.out 0).trans rfl; have hcz17_1 : w14.cell? ⟨gb132, 1, none⟩ = some (.int .i64 (wrap64 (1 + t131))) := (blk_cell BK132.out 1).trans rfl; have hfz17_0 := blk_frozen BK132.out 0; have hfz17_1 := blk_frozen BK132.out 1) | (go_at_call 7; (with_reducible refine (impl_MeetCount.calls k (wrap64 (1 + t130)) (wrap64 (1 + t131)) (wrap64 (1 + t133)) (wrap64 (1 + t134)) t136 t137 _ A9.out).mono ?_); rintro e w18 ⟨rfl, hb⟩; have n0_ := Aside0.mk (blk_below (g := gb132) (o := .cells #[.int .i64 (wrap64 (1 + t130)), .int .i64 (wrap64 (1 + t131))] 26 (0, 0)) (by (with_reducible repeat (first | refine blk_drewN ?_ _ | refine blk_drew ?_ | refine blk_alloc ?_ _)); refine blk_far ?_ NB132_135.out _; (with_reducible repeat (first | refine blk_drewN ?_ _ | refine blk_drew ?_ | refine blk_alloc ?_ _)); refine blk_far ?_ NB132_135.out _; (with_reducible repeat (first | refine blk_drewN ?_ _ | refine blk_drew ?_ | refine blk_alloc ?_ _)); exact BK132.out) hb); have n1_ := Aside0.mk (blk_below (g := gb135) (o := .cells #[.int .i64 (wrap64 (1 + t133)), .int .i64 (wrap64 (1 + t134))] 26 (0, 0)) (by (with_reducible repeat (first | refine blk_drewN ?_ _ | refine blk_drew ?_ | refine blk_alloc ?_ _)); refine blk_put (cs := #[.int .i64 (wrap64 (1 + t133)), .int .i64 0]) ?_ 1 _ rfl; (with_reducible repeat (first | refine blk_drewN ?_ _ | refine blk_drew ?_ | refine blk_alloc ?_ _)); refine blk_put (cs := #[.int .i64 0, .int .i64 0]) ?_ 0 _ rfl; (with_reducible repeat (first | refine blk_drewN ?_ _ | refine blk_drew ?_ | refine blk_alloc ?_ _)); exact BK135.out) hb); have n2_ := Aside0.mk (below_step (by repeat (first | (with_reducible first | exact HB.out | apply below_alloc | apply pw_below_drewN | apply below_drew1 | refine below_set ?_ GE132.out | refine below_set ?_ GE135.out) | exact HB.out)) hb); clear BK132; clear BK135; clear HB; have BK132 := n0_; have BK135 := n1_; have HB := n2_; clear n0_ n1_ n2_; (try clear hb); (try clear hb2); (try clear hk); (try clear hi); have hcz19_0 : w18.cell? ⟨gb135, 0, none⟩ = some (.int .i64 (wrap64 (1 + t133))) := (blk_cell BK135.out 0).trans rfl; have hcz19_1 : w18.cell? ⟨gb135, 1, none⟩ = some (.int .i64 (wrap64 (1 + t134))) := (blk_cell BK135.out 1).trans rfl; have hfz19_0 := blk_frozen BK135.out 0; have hfz19_1 := blk_frozen BK135.out 1; have hcz20_0 : w18.cell? ⟨gb132, 0, none⟩ = some (.int .i64 (wrap64 (1 + t130))) := (blk_cell BK132.out 0).trans rfl; have hcz20_1 : w18.cell? ⟨gb132, 1, none⟩ = some (.int .i64 (wrap64 (1 + t131))) := (blk_cell BK132.out 1).trans rfl; have hfz20_0 := blk_frozen BK132.out 0; have hfz20_1 := blk_frozen BK132.out 1) | (go_at_call 7; (with_reducible refine (impl_MeetCount.calls k (wrap64 (1 + t133)) (wrap64 (1 + t134)) (wrap64 (1 + t130)) (wrap64 (1 + t131)) t138 t139 _ A10.out).mono ?_); rintro e w21 ⟨rfl, hb⟩; have n0_ := Aside0.mk (blk_below (g := gb132) (o := .cells #[.int .i64 (wrap64 (1 + t130)), .int .i64 (wrap64 (1 + t131))] 26 (0, 0)) (by (with_reducible repeat (first | refine blk_drewN ?_ _ | refine blk_drew ?_ | refine blk_alloc ?_ _)); exact BK132.out) hb); have n1_ := Aside0.mk (blk_below (g := gb135) (o := .cells #[.int .i64 (wrap64 (1 + t133)), .int .i64 (wrap64 (1 + t134))] 26 (0, 0)) (by (with_reducible repeat (first | refine blk_drewN ?_ _ | refine blk_drew ?_ | refine blk_alloc ?_ _)); exact BK135.out) hb); have n2_ := Aside0.mk (below_step (by repeat (first | (with_reducible first | exact HB.out | apply below_alloc | apply pw_below_drewN | apply below_drew1 | refine below_set ?_ GE132.out | refine below_set ?_ GE135.out) | exact HB.out)) hb); clear BK132; clear BK135; clear HB; have BK132 := n0_; have BK135 := n1_; have HB := n2_; clear n0_ n1_ n2_; (try clear hb); (try clear hb2); (try clear hk); (try clear hi); have hcz22_0 : w21.cell? ⟨gb135, 0, none⟩ = some (.int .i64 (wrap64 (1 + t133))) := (blk_cell BK135.out 0).trans rfl; have hcz22_1 : w21.cell? ⟨gb135, 1, none⟩ = some (.int .i64 (wrap64 (1 + t134))) := (blk_cell BK135.out 1).trans rfl; have hfz22_0 := blk_frozen BK135.out 0; have hfz22_1 := blk_frozen BK135.out 1; have hcz23_0 : w21.cell? ⟨gb132, 0, none⟩ = some (.int .i64 (wrap64 (1 + t130))) := (blk_cell BK132.out 0).trans rfl; have hcz23_1 : w21.cell? ⟨gb132, 1, none⟩ = some (.int .i64 (wrap64 (1 + t131))) := (blk_cell BK132.out 1).trans rfl; have hfz23_0 := blk_frozen BK132.out 0; have hfz23_1 := blk_frozen BK132.out 1) | ((with_reducible refine gate_dst (N := 11) rfl ?_); (try (refine gate_guard (by rfl) ?_; dsimp only)); refine box_event ?hg (N := 11) ?hd (cs := #[.int .i64 0, .int .i64 0]) (t := 26) ?hr ?_; (case hd => rfl); (case hg => rfl); (case hr => first | (go_simp; done) | (go_simp; rfl)); intro gb140 hg w24 hbox hb; have n0_ := Aside0.mk (blk_below (g := gb132) (o := .cells #[.int .i64 (wrap64 (1 + t130)), .int .i64 (wrap64 (1 + t131))] 26 (0, 0)) (by (with_reducible repeat (first | refine blk_drewN ?_ _ | refine blk_drew ?_ | refine blk_alloc ?_ _)); exact BK132.out) hb); have n1_ := Aside0.mk (blk_below (g := gb135) (o := .cells #[.int .i64 (wrap64 (1 + t133)), .int .i64 (wrap64 (1 + t134))] 26 (0, 0)) (by (with_reducible repeat (first | refine blk_drewN ?_ _ | refine blk_drew ?_ | refine blk_alloc ?_ _)); exact BK135.out) hb); have n2_ := Aside0.mk (below_step (by repeat (first | (with_reducible first | exact HB.out | apply below_alloc | apply pw_below_drewN | apply below_drew1 | refine below_set ?_ GE132.out | refine below_set ?_ GE135.out) | exact HB.out)) hb); have n3_ := Aside0.mk (hbox); have n4_ := Aside0.mk ((by rw [hg]; exact (below_size (by repeat (first | (with_reducible first | exact HB.out | apply below_alloc | apply pw_below_drewN | apply below_drew1 | refine below_set ?_ GE132.out | refine below_set ?_ GE135.out) | exact HB.out))) : w.heap.size ≤ gb140)); have n5_ := Aside0.mk ((by rw [hg]; exact (below_size (by repeat (first | (with_reducible first | exact HB.out | apply below_alloc | apply pw_below_drewN | apply below_drew1 | refine below_set ?_ GE132.out | refine below_set ?_ GE135.out) | exact HB.out))) : w.heap.size ≤ gb140)); have n6_ := Aside0.mk ((by rw [hg]; exact Nat.ne_of_lt (blk_lt (g := gb132) (o := .cells #[.int .i64 (wrap64 (1 + t130)), .int .i64 (wrap64 (1 + t131))] 26 (0, 0)) (by (with_reducible repeat (first | refine blk_drewN ?_ _ | refine blk_drew ?_ | refine blk_alloc ?_ _)); exact BK132.out)) : gb132 ≠ gb140)); have n7_ := Aside0.mk ((by rw [hg]; exact Nat.ne_of_gt (blk_lt (g := gb132) (o := .cells #[.int .i64 (wrap64 (1 + t130)), .int .i64 (wrap64 (1 + t131))] 26 (0, 0)) (by (with_reducible repeat (first | refine blk_drewN ?_ _ | refine blk_drew ?_ | refine blk_alloc ?_ _)); exact BK132.out)) : gb140 ≠ gb132)); have n8_ := Aside0.mk ((by rw [hg]; exact Nat.ne_of_lt (blk_lt (g := gb135) (o := .cells #[.int .i64 (wrap64 (1 + t133)), .int .i64 (wrap64 (1 + t134))] 26 (0, 0)) (by (with_reducible repeat (first | refine blk_drewN ?_ _ | refine blk_drew ?_ | refine blk_alloc ?_ _)); exact BK135.out)) : gb135 ≠ gb140)); have n9_ := Aside0.mk ((by rw [hg]; exact Nat.ne_of_gt (blk_lt (g := gb135) (o := .cells #[.int .i64 (wrap64 (1 + t133)), .int .i64 (wrap64 (1 + t134))] 26 (0, 0)) (by (with_reducible repeat (first | refine blk_drewN ?_ _ | refine blk_drew ?_ | refine blk_alloc ?_ _)); exact BK135.out)) : gb140 ≠ gb135)); clear BK132; clear BK135; clear HB; have BK132 := n0_; have BK135 := n1_; have HB := n2_; have BK140 := n3_; have GW140 := n4_; have GE140 := n5_; have NB132_140 := n6_; have NB140_132 := n7_; have NB135_140 := n8_; have NB140_135 := n9_; clear n0_ n1_ n2_ n3_ n4_ n5_ n6_ n7_ n8_ n9_; clear hb hbox hg; have hnb25 := NB140_132.out; have hnc25 := NB132_140.out; have hnb26 := NB140_135.out; have hnc26 := NB135_140.out; have hcz27_0 : w24.cell? ⟨gb140, 0, none⟩ = some (.int .i64 0) := (blk_cell BK140.out 0).trans rfl; have hcz27_1 : w24.cell? ⟨gb140, 1, none⟩ = some (.int .i64 0) := (blk_cell BK140.out 1).trans rfl; have hfz27_0 := blk_frozen BK140.out 0; have hfz27_1 := blk_frozen BK140.out 1; have hcz28_0 : w24.cell? ⟨gb132, 0, none⟩ = some (.int .i64 (wrap64 (1 + t130))) := (blk_cell BK132.out 0).trans rfl; have hcz28_1 : w24.cell? ⟨gb132, 1, none⟩ = some (.int .i64 (wrap64 (1 + t131))) := (blk_cell BK132.out 1).trans rfl; have hfz28_0 := blk_frozen BK132.out 0; have hfz28_1 := blk_frozen BK132.out 1) | (go_at_call 7; (with_reducible refine (impl_MeetCount.calls k (wrap64 (1 + t130)) (wrap64 (1 + t131)) (wrap64 (1 + t133)) (wrap64 (1 + t131)) t141 t142 _ A11.out).mono ?_); rintro e w29 ⟨rfl, hb⟩; have n0_ := Aside0.mk (blk_below (g := gb132) (o := .cells #[.int .i64 (wrap64 (1 + t130)), .int .i64 (wrap64 (1 + t131))] 26 (0, 0)) (by (with_reducible repeat (first | refine blk_drewN ?_ _ | refine blk_drew ?_ | refine blk_alloc ?_ _)); refine blk_far ?_ NB132_140.out _; (with_reducible repeat (first | refine blk_drewN ?_ _ | refine blk_drew ?_ | refine blk_alloc ?_ _)); refine blk_far ?_ NB132_140.out _; (with_reducible repeat (first | refine blk_drewN ?_ _ | refine blk_drew ?_ | refine blk_alloc ?_ _)); exact BK132.out) hb); have n1_ := Aside0.mk (blk_below (g := gb135) (o := .cells #[.int .i64 (wrap64 (1 + t133)), .int .i64 (wrap64 (1 + t134))] 26 (0, 0)) (by (with_reducible repeat (first | refine blk_drewN ?_ _ | refine blk_drew ?_ | refine blk_alloc ?_ _)); refine blk_far ?_ NB135_140.out _; (with_reducible repeat (first | refine blk_drewN ?_ _ | refine blk_drew ?_ | refine blk_alloc ?_ _)); refine blk_far ?_ NB135_140.out _; (with_reducible repeat (first | refine blk_drewN ?_ _ | refine blk_drew ?_ | refine blk_alloc ?_ _)); exact BK135.out) hb); have n2_ := Aside0.mk (blk_below (g := gb140) (o := .cells #[.int .i64 (wrap64 (1 + t133)), .int .i64 (wrap64 (1 + t131))] 26 (0, 0)) (by (with_reducible repeat (first | refine blk_drewN ?_ _ | refine blk_drew ?_ | refine blk_alloc ?_ _)); refine blk_put (cs := #[.int .i64 (wrap64 (1 + t133)), .int .i64 0]) ?_ 1 _ rfl; (with_reducible repeat (first | refine blk_drewN ?_ _ | refine blk_drew ?_ | refine blk_alloc ?_ _)); refine blk_put (cs := #[.int .i64 0, .int .i64 0]) ?_ 0 _ rfl; (with_reducible repeat (first | refine blk_drewN ?_ _ | refine blk_drew ?_ | refine blk_alloc ?_ _)); exact BK140.out) hb); have n3_ := Aside0.mk (below_step (by repeat (first | (with_reducible first | exact HB.out | apply below_alloc | apply pw_below_drewN | apply below_drew1 | refine below_set ?_ GE132.out | refine below_set ?_ GE135.out | refine below_set ?_ GE140.out) | exact HB.out)) hb); clear BK132; clear BK135; clear BK140; clear HB; have BK132 := n0_; have BK135 := n1_; have BK140 := n2_; have HB := n3_; clear n0_ n1_ n2_ n3_; (try clear hb); (try clear hb2); (try clear hk); (try clear hi); have hcz30_0 : w29.cell? ⟨gb132, 0, none⟩ = some (.int .i64 (wrap64 (1 + t130))) := (blk_cell BK132.out 0).trans rfl; have hcz30_1 : w29.cell? ⟨gb132, 1, none⟩ = some (.int .i64 (wrap64 (1 + t131))) := (blk_cell BK132.out 1).trans rfl; have hfz30_0 := blk_frozen BK132.out 0; have hfz30_1 := blk_frozen BK132.out 1; have hcz31_0 : w29.cell? ⟨gb135, 0, none⟩ = some (.int .i64 (wrap64 (1 + t133))) := (blk_cell BK135.out 0).trans rfl; have hcz31_1 : w29.cell? ⟨gb135, 1, none⟩ = some (.int .i64 (wrap64 (1 + t134))) := (blk_cell BK135.out 1).trans rfl; have hfz31_0 := blk_frozen BK135.out 0; have hfz31_1 := blk_frozen BK135.out 1))
    repeat (go_quiet (first | (go_at_call 5; (with_reducible refine (laws_r8Long.calls _ _ l0 _ _ l1 false _ ?side1 ?side2 ?side3 ?side4 A3.out).mono ?_); (case side1 => repeat (first | exact HR0.out | (with_reducible refine Kd.C_alloc ?_ _) | (with_reducible refine Kd.C_drewN ?_ _) | (with_reducible refine Kd.C_drew ?_))); (case side2 => exact HC0.out); (case side3 => repeat (first | exact HR1.out | (with_reducible refine Kd.C_alloc ?_ _) | (with_reducible refine Kd.C_drewN ?_ _) | (with_reducible refine Kd.C_drew ?_))); (case side4 => exact HC1.out); rintro e w' ⟨rfl, ⟨nd, rfl⟩⟩; (try first | exact ⟨rfl, _, World.drewN_drewN _ _ _⟩ | exact ⟨rfl, _, Eq.trans (World.drewN_drewN _ _ _) (congrArg (World.drewN _) (Nat.add_assoc _ _ _))⟩)) | (go_at_call 6; (with_reducible refine (laws_r8At.calls _ _ l1 0 12 t130 _ ?side1 ?side2 A5.out).mono ?_); (case side1 => repeat (first | exact HR1.out | (with_reducible refine Kd.C_alloc ?_ _) | (with_reducible refine Kd.C_drewN ?_ _) | (with_reducible refine Kd.C_drew ?_))); (case side2 => exact HC1.out); rintro e w' ⟨rfl, ⟨nd, rfl⟩⟩; (try first | exact ⟨rfl, _, World.drewN_drewN _ _ _⟩ | exact ⟨rfl, _, Eq.trans (World.drewN_drewN _ _ _) (congrArg (World.drewN _) (Nat.add_assoc _ _ _))⟩)) | (go_at_call 6; (with_reducible refine (laws_r8At.calls _ _ l1 1 8 t131 _ ?side1 ?side2 A6.out).mono ?_); (case side1 => repeat (first | exact HR1.out | (with_reducible refine Kd.C_alloc ?_ _) | (with_reducible refine Kd.C_drewN ?_ _) | (with_reducible refine Kd.C_drew ?_))); (case side2 => exact HC1.out); rintro e w' ⟨rfl, ⟨nd, rfl⟩⟩; (try first | exact ⟨rfl, _, World.drewN_drewN _ _ _⟩ | exact ⟨rfl, _, Eq.trans (World.drewN_drewN _ _ _) (congrArg (World.drewN _) (Nat.add_assoc _ _ _))⟩)) | ((with_reducible refine gate_dst (N := 5) rfl ?_); (try (refine gate_guard (by rfl) ?_; dsimp only)); refine box_event ?hg (N := 5) ?hd (cs := #[.int .i64 0, .int .i64 0]) (t := 26) ?hr ?_; (case hd => rfl); (case hg => rfl); (case hr => first | (go_simp; done) | (go_simp; rfl)); intro gb132 hg w12 hbox hb; have n0_ := Aside0.mk (below_step (by repeat (first | (with_reducible first | exact HB.out | apply below_alloc | apply pw_below_drewN | apply below_drew1) | exact HB.out)) hb); have n1_ := Aside0.mk (hbox); have n2_ := Aside0.mk ((by rw [hg]; exact (below_size (by repeat (first | (with_reducible first | exact HB.out | apply below_alloc | apply pw_below_drewN | apply below_drew1) | exact HB.out))) : w.heap.size ≤ gb132)); have n3_ := Aside0.mk ((by rw [hg]; exact (below_size (by repeat (first | (with_reducible first | exact HB.out | apply below_alloc | apply pw_below_drewN | apply below_drew1) | exact HB.out))) : w.heap.size ≤ gb132)); clear HB; have HB := n0_; have BK132 := n1_; have GW132 := n2_; have GE132 := n3_; clear n0_ n1_ n2_ n3_; clear hb hbox hg; have hcz13_0 : w12.cell? ⟨gb132, 0, none⟩ = some (.int .i64 0) := (blk_cell BK132.out 0).trans rfl; have hcz13_1 : w12.cell? ⟨gb132, 1, none⟩ = some (.int .i64 0) := (blk_cell BK132.out 1).trans rfl; have hfz13_0 := blk_frozen BK132.out 0; have hfz13_1 := blk_frozen BK132.out 1) | (go_at_call 6; (with_reducible refine (laws_r8At.calls _ _ l1 2 12 t133 _ ?side1 ?side2 A7.out).mono ?_); (case side1 => exact Kd.C_below HR1.out (by repeat (first | (with_reducible first | exact HB.out | apply below_alloc | apply pw_below_drewN | apply below_drew1 | refine below_set ?_ GE132.out) | exact HB.out))); (case side2 => exact HC1.out); rintro e w' ⟨rfl, ⟨nd, rfl⟩⟩; (try first | exact ⟨rfl, _, World.drewN_drewN _ _ _⟩ | exact ⟨rfl, _, Eq.trans (World.drewN_drewN _ _ _) (congrArg (World.drewN _) (Nat.add_assoc _ _ _))⟩)) | (go_at_call 6; (with_reducible refine (laws_r8At.calls _ _ l1 3 8 t134 _ ?side1 ?side2 A8.out).mono ?_); (case side1 => exact Kd.C_below HR1.out (by repeat (first | (with_reducible first | exact HB.out | apply below_alloc | apply pw_below_drewN | apply below_drew1 | refine below_set ?_ GE132.out) | exact HB.out))); (case side2 => exact HC1.out); rintro e w' ⟨rfl, ⟨nd, rfl⟩⟩; (try first | exact ⟨rfl, _, World.drewN_drewN _ _ _⟩ | exact ⟨rfl, _, Eq.trans (World.drewN_drewN _ _ _) (congrArg (World.drewN _) (Nat.add_assoc _ _ _))⟩)) | ((with_reducible refine gate_dst (N := 6) rfl ?_); (try (refine gate_guard (by rfl) ?_; dsimp only)); refine box_event ?hg (N := 6) ?hd (cs := #[.int .i64 0, .int .i64 0]) (t := 26) ?hr ?_; (case hd => rfl); (case hg => rfl); (case hr => first | (go_simp; done) | (go_simp; rfl)); intro gb135 hg w14 hbox hb; have n0_ := Aside0.mk (blk_below (g := gb132) (o := .cells #[.int .i64 (wrap64 (1 + t130)), .int .i64 (wrap64 (1 + t131))] 26 (0, 0)) (by (with_reducible repeat (first | refine blk_drewN ?_ _ | refine blk_drew ?_ | refine blk_alloc ?_ _)); refine blk_put (cs := #[.int .i64 (wrap64 (1 + t130)), .int .i64 0]) ?_ 1 _ rfl; (with_reducible repeat (first | refine blk_drewN ?_ _ | refine blk_drew ?_ | refine blk_alloc ?_ _)); refine blk_put (cs := #[.int .i64 0, .int .i64 0]) ?_ 0 _ rfl; (with_reducible repeat (first | refine blk_drewN ?_ _ | refine blk_drew ?_ | refine blk_alloc ?_ _)); exact BK132.out) hb); have n1_ := Aside0.mk (below_step (by repeat (first | (with_reducible first | exact HB.out | apply below_alloc | apply pw_below_drewN | apply below_drew1 | refine below_set ?_ GE132.out) | exact HB.out)) hb); have n2_ := Aside0.mk (hbox); have n3_ := Aside0.mk ((by rw [hg]; exact (below_size (by repeat (first | (with_reducible first | exact HB.out | apply below_alloc | apply pw_below_drewN | apply below_drew1 | refine below_set ?_ GE132.out) | exact HB.out))) : w.heap.size ≤ gb135)); have n4_ := Aside0.mk ((by rw [hg]; exact (below_size (by repeat (first | (with_reducible first | exact HB.out | apply below_alloc | apply pw_below_drewN | apply below_drew1 | refine below_set ?_ GE132.out) | exact HB.out))) : w.heap.size ≤ gb135)); have n5_ := Aside0.mk ((by rw [hg]; exact Nat.ne_of_lt (blk_lt (g := gb132) (o := .cells #[.int .i64 (wrap64 (1 + t130)), .int .i64 (wrap64 (1 + t131))] 26 (0, 0)) (by (with_reducible repeat (first | refine blk_drewN ?_ _ | refine blk_drew ?_ | refine blk_alloc ?_ _)); refine blk_put (cs := #[.int .i64 (wrap64 (1 + t130)), .int .i64 0]) ?_ 1 _ rfl; (with_reducible repeat (first | refine blk_drewN ?_ _ | refine blk_drew ?_ | refine blk_alloc ?_ _)); refine blk_put (cs := #[.int .i64 0, .int .i64 0]) ?_ 0 _ rfl; (with_reducible repeat (first | refine blk_drewN ?_ _ | refine blk_drew ?_ | refine blk_alloc ?_ _)); exact BK132.out)) : gb132 ≠ gb135)); have n6_ := Aside0.mk ((by rw [hg]; exact Nat.ne_of_gt (blk_lt (g := gb132) (o := .cells #[.int .i64 (wrap64 (1 + t130)), .int .i64 (wrap64 (1 + t131))] 26 (0, 0)) (by (with_reducible repeat (first | refine blk_drewN ?_ _ | refine blk_drew ?_ | refine blk_alloc ?_ _)); refine blk_put (cs := #[.int .i64 (wrap64 (1 + t130)), .int .i64 0]) ?_ 1 _ rfl; (with_reducible repeat (first | refine blk_drewN ?_ _ | refine blk_drew ?_ | refine blk_alloc ?_ _)); refine blk_put (cs := #[.int .i64 0, .int .i64 0]) ?_ 0 _ rfl; (with_reducible repeat (first | refine blk_drewN ?_ _ | refine blk_drew ?_ | refine blk_alloc ?_ _)); exact BK132.out)) : gb135 ≠ gb132)); clear BK132; clear HB; have BK132 := n0_; have HB := n1_; have BK135 := n2_; have GW135 := n3_; have GE135 := n4_; have NB132_135 := n5_; have NB135_132 := n6_; clear n0_ n1_ n2_ n3_ n4_ n5_ n6_; clear hb hbox hg; have hnb15 := NB135_132.out; have hnc15 := NB132_135.out; have hcz16_0 : w14.cell? ⟨gb135, 0, none⟩ = some (.int .i64 0) := (blk_cell BK135.out 0).trans rfl; have hcz16_1 : w14.cell? ⟨gb135, 1, none⟩ = some (.int .i64 0) := (blk_cell BK135.out 1).trans rfl; have hfz16_0 := blk_frozen BK135.out 0; have hfz16_1 := blk_frozen BK135.out 1; have hcz17_0 : w14.cell? ⟨gb132, 0, none⟩ = some (.int .i64 (wrap64 (1 + t130))) := (blk_cell BK132.out 0).trans rfl; have hcz17_1 : w14.cell? ⟨gb132, 1, none⟩ = some (.int .i64 (wrap64 (1 + t131))) := (blk_cell BK132.out 1).trans rfl; have hfz17_0 := blk_frozen BK132.out 0; have hfz17_1 := blk_frozen BK132.out 1) | (go_at_call 7; (with_reducible refine (impl_MeetCount.calls k (wrap64 (1 + t130)) (wrap64 (1 + t131)) (wrap64 (1 + t133)) (wrap64 (1 + t134)) t136 t137 _ A9.out).mono ?_); rintro e w18 ⟨rfl, hb⟩; have n0_ := Aside0.mk (blk_below (g := gb132) (o := .cells #[.int .i64 (wrap64 (1 + t130)), .int .i64 (wrap64 (1 + t131))] 26 (0, 0)) (by (with_reducible repeat (first | refine blk_drewN ?_ _ | refine blk_drew ?_ | refine blk_alloc ?_ _)); refine blk_far ?_ NB132_135.out _; (with_reducible repeat (first | refine blk_drewN ?_ _ | refine blk_drew ?_ | refine blk_alloc ?_ _)); refine blk_far ?_ NB132_135.out _; (with_reducible repeat (first | refine blk_drewN ?_ _ | refine blk_drew ?_ | refine blk_alloc ?_ _)); exact BK132.out) hb); have n1_ := Aside0.mk (blk_below (g := gb135) (o := .cells #[.int .i64 (wrap64 (1 + t133)), .int .i64 (wrap64 (1 + t134))] 26 (0, 0)) (by (with_reducible repeat (first | refine blk_drewN ?_ _ | refine blk_drew ?_ | refine blk_alloc ?_ _)); refine blk_put (cs := #[.int .i64 (wrap64 (1 + t133)), .int .i64 0]) ?_ 1 _ rfl; (with_reducible repeat (first | refine blk_drewN ?_ _ | refine blk_drew ?_ | refine blk_alloc ?_ _)); refine blk_put (cs := #[.int .i64 0, .int .i64 0]) ?_ 0 _ rfl; (with_reducible repeat (first | refine blk_drewN ?_ _ | refine blk_drew ?_ | refine blk_alloc ?_ _)); exact BK135.out) hb); have n2_ := Aside0.mk (below_step (by repeat (first | (with_reducible first | exact HB.out | apply below_alloc | apply pw_below_drewN | apply below_drew1 | refine below_set ?_ GE132.out | refine below_set ?_ GE135.out) | exact HB.out)) hb); clear BK132; clear BK135; clear HB; have BK132 := n0_; have BK135 := n1_; have HB := n2_; clear n0_ n1_ n2_; (try clear hb); (try clear hb2); (try clear hk); (try clear hi); have hcz19_0 : w18.cell? ⟨gb135, 0, none⟩ = some (.int .i64 (wrap64 (1 + t133))) := (blk_cell BK135.out 0).trans rfl; have hcz19_1 : w18.cell? ⟨gb135, 1, none⟩ = some (.int .i64 (wrap64 (1 + t134))) := (blk_cell BK135.out 1).trans rfl; have hfz19_0 := blk_frozen BK135.out 0; have hfz19_1 := blk_frozen BK135.out 1; have hcz20_0 : w18.cell? ⟨gb132, 0, none⟩ = some (.int .i64 (wrap64 (1 + t130))) := (blk_cell BK132.out 0).trans rfl; have hcz20_1 : w18.cell? ⟨gb132, 1, none⟩ = some (.int .i64 (wrap64 (1 + t131))) := (blk_cell BK132.out 1).trans rfl; have hfz20_0 := blk_frozen BK132.out 0; have hfz20_1 := blk_frozen BK132.out 1) | (go_at_call 7; (with_reducible refine (impl_MeetCount.calls k (wrap64 (1 + t133)) (wrap64 (1 + t134)) (wrap64 (1 + t130)) (wrap64 (1 + t131)) t138 t139 _ A10.out).mono ?_); rintro e w21 ⟨rfl, hb⟩; have n0_ := Aside0.mk (blk_below (g := gb132) (o := .cells #[.int .i64 (wrap64 (1 + t130)), .int .i64 (wrap64 (1 + t131))] 26 (0, 0)) (by (with_reducible repeat (first | refine blk_drewN ?_ _ | refine blk_drew ?_ | refine blk_alloc ?_ _)); exact BK132.out) hb); have n1_ := Aside0.mk (blk_below (g := gb135) (o := .cells #[.int .i64 (wrap64 (1 + t133)), .int .i64 (wrap64 (1 + t134))] 26 (0, 0)) (by (with_reducible repeat (first | refine blk_drewN ?_ _ | refine blk_drew ?_ | refine blk_alloc ?_ _)); exact BK135.out) hb); have n2_ := Aside0.mk (below_step (by repeat (first | (with_reducible first | exact HB.out | apply below_alloc | apply pw_below_drewN | apply below_drew1 | refine below_set ?_ GE132.out | refine below_set ?_ GE135.out) | exact HB.out)) hb); clear BK132; clear BK135; clear HB; have BK132 := n0_; have BK135 := n1_; have HB := n2_; clear n0_ n1_ n2_; (try clear hb); (try clear hb2); (try clear hk); (try clear hi); have hcz22_0 : w21.cell? ⟨gb135, 0, none⟩ = some (.int .i64 (wrap64 (1 + t133))) := (blk_cell BK135.out 0).trans rfl; have hcz22_1 : w21.cell? ⟨gb135, 1, none⟩ = some (.int .i64 (wrap64 (1 + t134))) := (blk_cell BK135.out 1).trans rfl; have hfz22_0 := blk_frozen BK135.out 0; have hfz22_1 := blk_frozen BK135.out 1; have hcz23_0 : w21.cell? ⟨gb132, 0, none⟩ = some (.int .i64 (wrap64 (1 + t130))) := (blk_cell BK132.out 0).trans rfl; have hcz23_1 : w21.cell? ⟨gb132, 1, none⟩ = some (.int .i64 (wrap64 (1 + t131))) := (blk_cell BK132.out 1).trans rfl; have hfz23_0 := blk_frozen BK132.out 0; have hfz23_1 := blk_frozen BK132.out 1) | ((with_reducible refine gate_dst (N := 11) rfl ?_); (try (refine gate_guard (by rfl) ?_; dsimp only)); refine box_event ?hg (N := 11) ?hd (cs := #[.int .i64 0, .int .i64 0]) (t := 26) ?hr ?_; (case hd => rfl); (case hg => rfl); (case hr => first | (go_simp; done) | (go_simp; rfl)); intro gb140 hg w24 hbox hb; have n0_ := Aside0.mk (blk_below (g := gb132) (o := .cells #[.int .i64 (wrap64 (1 + t130)), .int .i64 (wrap64 (1 + t131))] 26 (0, 0)) (by (with_reducible repeat (first | refine blk_drewN ?_ _ | refine blk_drew ?_ | refine blk_alloc ?_ _)); exact BK132.out) hb); have n1_ := Aside0.mk (blk_below (g := gb135) (o := .cells #[.int .i64 (wrap64 (1 + t133)), .int .i64 (wrap64 (1 + t134))] 26 (0, 0)) (by (with_reducible repeat (first | refine blk_drewN ?_ _ | refine blk_drew ?_ | refine blk_alloc ?_ _)); exact BK135.out) hb); have n2_ := Aside0.mk (below_step (by repeat (first | (with_reducible first | exact HB.out | apply below_alloc | apply pw_below_drewN | apply below_drew1 | refine below_set ?_ GE132.out | refine below_set ?_ GE135.out) | exact HB.out)) hb); have n3_ := Aside0.mk (hbox); have n4_ := Aside0.mk ((by rw [hg]; exact (below_size (by repeat (first | (with_reducible first | exact HB.out | apply below_alloc | apply pw_below_drewN | apply below_drew1 | refine below_set ?_ GE132.out | refine below_set ?_ GE135.out) | exact HB.out))) : w.heap.size ≤ gb140)); have n5_ := Aside0.mk ((by rw [hg]; exact (below_size (by repeat (first | (with_reducible first | exact HB.out | apply below_alloc | apply pw_below_drewN | apply below_drew1 | refine below_set ?_ GE132.out | refine below_set ?_ GE135.out) | exact HB.out))) : w.heap.size ≤ gb140)); have n6_ := Aside0.mk ((by rw [hg]; exact Nat.ne_of_lt (blk_lt (g := gb132) (o := .cells #[.int .i64 (wrap64 (1 + t130)), .int .i64 (wrap64 (1 + t131))] 26 (0, 0)) (by (with_reducible repeat (first | refine blk_drewN ?_ _ | refine blk_drew ?_ | refine blk_alloc ?_ _)); exact BK132.out)) : gb132 ≠ gb140)); have n7_ := Aside0.mk ((by rw [hg]; exact Nat.ne_of_gt (blk_lt (g := gb132) (o := .cells #[.int .i64 (wrap64 (1 + t130)), .int .i64 (wrap64 (1 + t131))] 26 (0, 0)) (by (with_reducible repeat (first | refine blk_drewN ?_ _ | refine blk_drew ?_ | refine blk_alloc ?_ _)); exact BK132.out)) : gb140 ≠ gb132)); have n8_ := Aside0.mk ((by rw [hg]; exact Nat.ne_of_lt (blk_lt (g := gb135) (o := .cells #[.int .i64 (wrap64 (1 + t133)), .int .i64 (wrap64 (1 + t134))] 26 (0, 0)) (by (with_reducible repeat (first | refine blk_drewN ?_ _ | refine blk_drew ?_ | refine blk_alloc ?_ _)); exact BK135.out)) : gb135 ≠ gb140)); have n9_ := Aside0.mk ((by rw [hg]; exact Nat.ne_of_gt (blk_lt (g := gb135) (o := .cells #[.int .i64 (wrap64 (1 + t133)), .int .i64 (wrap64 (1 + t134))] 26 (0, 0)) (by (with_reducible repeat (first | refine blk_drewN ?_ _ | refine blk_drew ?_ | refine blk_alloc ?_ _)); exact BK135.out)) : gb140 ≠ gb135)); clear BK132; clear BK135; clear HB; have BK132 := n0_; have BK135 := n1_; have HB := n2_; have BK140 := n3_; have GW140 := n4_; have GE140 := n5_; have NB132_140 := n6_; have NB140_132 := n7_; have NB135_140 := n8_; have NB140_135 := n9_; clear n0_ n1_ n2_ n3_ n4_ n5_ n6_ n7_ n8_ n9_; clear hb hbox hg; have hnb25 := NB140_132.out; have hnc25 := NB132_140.out; have hnb26 := NB140_135.out; have hnc26 := NB135_140.out; have hcz27_0 : w24.cell? ⟨gb140, 0, none⟩ = some (.int .i64 0) := (blk_cell BK140.out 0).trans rfl; have hcz27_1 : w24.cell? ⟨gb140, 1, none⟩ = some (.int .i64 0) := (blk_cell BK140.out 1).trans rfl; have hfz27_0 := blk_frozen BK140.out 0; have hfz27_1 := blk_frozen BK140.out 1; have hcz28_0 : w24.cell? ⟨gb132, 0, none⟩ = some (.int .i64 (wrap64 (1 + t130))) := (blk_cell BK132.out 0).trans rfl; have hcz28_1 : w24.cell? ⟨gb132, 1, none⟩ = some (.int .i64 (wrap64 (1 + t131))) := (blk_cell BK132.out 1).trans rfl; have hfz28_0 := blk_frozen BK132.out 0; have hfz28_1 := blk_frozen BK132.out 1) | (go_at_call 7; (with_reducible refine (impl_MeetCount.calls k (wrap64 (1 + t130)) (wrap64 (1 + t131)) (wrap64 (1 + t133)) (wrap64 (1 + t131)) t141 t142 _ A11.out).mono ?_); rintro e w29 ⟨rfl, hb⟩; have n0_ := Aside0.mk (blk_below (g := gb132) (o := .cells #[.int .i64 (wrap64 (1 + t130)), .int .i64 (wrap64 (1 + t131))] 26 (0, 0)) (by (with_reducible repeat (first | refine blk_drewN ?_ _ | refine blk_drew ?_ | refine blk_alloc ?_ _)); refine blk_far ?_ NB132_140.out _; (with_reducible repeat (first | refine blk_drewN ?_ _ | refine blk_drew ?_ | refine blk_alloc ?_ _)); refine blk_far ?_ NB132_140.out _; (with_reducible repeat (first | refine blk_drewN ?_ _ | refine blk_drew ?_ | refine blk_alloc ?_ _)); exact BK132.out) hb); have n1_ := Aside0.mk (blk_below (g := gb135) (o := .cells #[.int .i64 (wrap64 (1 + t133)), .int .i64 (wrap64 (1 + t134))] 26 (0, 0)) (by (with_reducible repeat (first | refine blk_drewN ?_ _ | refine blk_drew ?_ | refine blk_alloc ?_ _)); refine blk_far ?_ NB135_140.out _; (with_reducible repeat (first | refine blk_drewN ?_ _ | refine blk_drew ?_ | refine blk_alloc ?_ _)); refine blk_far ?_ NB135_140.out _; (with_reducible repeat (first | refine blk_drewN ?_ _ | refine blk_drew ?_ | refine blk_alloc ?_ _)); exact BK135.out) hb); have n2_ := Aside0.mk (blk_below (g := gb140) (o := .cells #[.int .i64 (wrap64 (1 + t133)), .int .i64 (wrap64 (1 + t131))] 26 (0, 0)) (by (with_reducible repeat (first | refine blk_drewN ?_ _ | refine blk_drew ?_ | refine blk_alloc ?_ _)); refine blk_put (cs := #[.int .i64 (wrap64 (1 + t133)), .int .i64 0]) ?_ 1 _ rfl; (with_reducible repeat (first | refine blk_drewN ?_ _ | refine blk_drew ?_ | refine blk_alloc ?_ _)); refine blk_put (cs := #[.int .i64 0, .int .i64 0]) ?_ 0 _ rfl; (with_reducible repeat (first | refine blk_drewN ?_ _ | refine blk_drew ?_ | refine blk_alloc ?_ _)); exact BK140.out) hb); have n3_ := Aside0.mk (below_step (by repeat (first | (with_reducible first | exact HB.out | apply below_alloc | apply pw_below_drewN | apply below_drew1 | refine below_set ?_ GE132.out | refine below_set ?_ GE135.out | refine below_set ?_ GE140.out) | exact HB.out)) hb); clear BK132; clear BK135; clear BK140; clear HB; have BK132 := n0_; have BK135 := n1_; have BK140 := n2_; have HB := n3_; clear n0_ n1_ n2_ n3_; (try clear hb); (try clear hb2); (try clear hk); (try clear hi); have hcz30_0 : w29.cell? ⟨gb132, 0, none⟩ = some (.int .i64 (wrap64 (1 + t130))) := (blk_cell BK132.out 0).trans rfl; have hcz30_1 : w29.cell? ⟨gb132, 1, none⟩ = some (.int .i64 (wrap64 (1 + t131))) := (blk_cell BK132.out 1).trans rfl; have hfz30_0 := blk_frozen BK132.out 0; have hfz30_1 := blk_frozen BK132.out 1; have hcz31_0 : w29.cell? ⟨gb135, 0, none⟩ = some (.int .i64 (wrap64 (1 + t133))) := (blk_cell BK135.out 0).trans rfl; have hcz31_1 : w29.cell? ⟨gb135, 1, none⟩ = some (.int .i64 (wrap64 (1 + t134))) := (blk_cell BK135.out 1).trans rfl; have hfz31_0 := blk_frozen BK135.out 0; have hfz31_1 := blk_frozen BK135.out 1)); try go_wp2_with (first | (go_at_call 5; (with_reducible refine (laws_r8Long.calls _ _ l0 _ _ l1 false _ ?side1 ?side2 ?side3 ?side4 A3.out).mono ?_); (case side1 => repeat (first | exact HR0.out | (with_reducible refine Kd.C_alloc ?_ _) | (with_reducible refine Kd.C_drewN ?_ _) | (with_reducible refine Kd.C_drew ?_))); (case side2 => exact HC0.out); (case side3 => repeat (first | exact HR1.out | (with_reducible refine Kd.C_alloc ?_ _) | (with_reducible refine Kd.C_drewN ?_ _) | (with_reducible refine Kd.C_drew ?_))); (case side4 => exact HC1.out); rintro e w' ⟨rfl, ⟨nd, rfl⟩⟩; (try first | exact ⟨rfl, _, World.drewN_drewN _ _ _⟩ | exact ⟨rfl, _, Eq.trans (World.drewN_drewN _ _ _) (congrArg (World.drewN _) (Nat.add_assoc _ _ _))⟩)) | (go_at_call 6; (with_reducible refine (laws_r8At.calls _ _ l1 0 12 t130 _ ?side1 ?side2 A5.out).mono ?_); (case side1 => repeat (first | exact HR1.out | (with_reducible refine Kd.C_alloc ?_ _) | (with_reducible refine Kd.C_drewN ?_ _) | (with_reducible refine Kd.C_drew ?_))); (case side2 => exact HC1.out); rintro e w' ⟨rfl, ⟨nd, rfl⟩⟩; (try first | exact ⟨rfl, _, World.drewN_drewN _ _ _⟩ | exact ⟨rfl, _, Eq.trans (World.drewN_drewN _ _ _) (congrArg (World.drewN _) (Nat.add_assoc _ _ _))⟩)) | (go_at_call 6; (with_reducible refine (laws_r8At.calls _ _ l1 1 8 t131 _ ?side1 ?side2 A6.out).mono ?_); (case side1 => repeat (first | exact HR1.out | (with_reducible refine Kd.C_alloc ?_ _) | (with_reducible refine Kd.C_drewN ?_ _) | (with_reducible refine Kd.C_drew ?_))); (case side2 => exact HC1.out); rintro e w' ⟨rfl, ⟨nd, rfl⟩⟩; (try first | exact ⟨rfl, _, World.drewN_drewN _ _ _⟩ | exact ⟨rfl, _, Eq.trans (World.drewN_drewN _ _ _) (congrArg (World.drewN _) (Nat.add_assoc _ _ _))⟩)) | ((with_reducible refine gate_dst (N := 5) rfl ?_); (try (refine gate_guard (by rfl) ?_; dsimp only)); refine box_event ?hg (N := 5) ?hd (cs := #[.int .i64 0, .int .i64 0]) (t := 26) ?hr ?_; (case hd => rfl); (case hg => rfl); (case hr => first | (go_simp; done) | (go_simp; rfl)); intro gb132 hg w12 hbox hb; have n0_ := Aside0.mk (below_step (by repeat (first | (with_reducible first | exact HB.out | apply below_alloc | apply pw_below_drewN | apply below_drew1) | exact HB.out)) hb); have n1_ := Aside0.mk (hbox); have n2_ := Aside0.mk ((by rw [hg]; exact (below_size (by repeat (first | (with_reducible first | exact HB.out | apply below_alloc | apply pw_below_drewN | apply below_drew1) | exact HB.out))) : w.heap.size ≤ gb132)); have n3_ := Aside0.mk ((by rw [hg]; exact (below_size (by repeat (first | (with_reducible first | exact HB.out | apply below_alloc | apply pw_below_drewN | apply below_drew1) | exact HB.out))) : w.heap.size ≤ gb132)); clear HB; have HB := n0_; have BK132 := n1_; have GW132 := n2_; have GE132 := n3_; clear n0_ n1_ n2_ n3_; clear hb hbox hg; have hcz13_0 : w12.cell? ⟨gb132, 0, none⟩ = some (.int .i64 0) := (blk_cell BK132.out 0).trans rfl; have hcz13_1 : w12.cell? ⟨gb132, 1, none⟩ = some (.int .i64 0) := (blk_cell BK132.out 1).trans rfl; have hfz13_0 := blk_frozen BK132.out 0; have hfz13_1 := blk_frozen BK132.out 1) | (go_at_call 6; (with_reducible refine (laws_r8At.calls _ _ l1 2 12 t133 _ ?side1 ?side2 A7.out).mono ?_); (case side1 => exact Kd.C_below HR1.out (by repeat (first | (with_reducible first | exact HB.out | apply below_alloc | apply pw_below_drewN | apply below_drew1 | refine below_set ?_ GE132.out) | exact HB.out))); (case side2 => exact HC1.out); rintro e w' ⟨rfl, ⟨nd, rfl⟩⟩; (try first | exact ⟨rfl, _, World.drewN_drewN _ _ _⟩ | exact ⟨rfl, _, Eq.trans (World.drewN_drewN _ _ _) (congrArg (World.drewN _) (Nat.add_assoc _ _ _))⟩)) | (go_at_call 6; (with_reducible refine (laws_r8At.calls _ _ l1 3 8 t134 _ ?side1 ?side2 A8.out).mono ?_); (case side1 => exact Kd.C_below HR1.out (by repeat (first | (with_reducible first | exact HB.out | apply below_alloc | apply pw_below_drewN | apply below_drew1 | refine below_set ?_ GE132.out) | exact HB.out))); (case side2 => exact HC1.out); rintro e w' ⟨rfl, ⟨nd, rfl⟩⟩; (try first | exact ⟨rfl, _, World.drewN_drewN _ _ _⟩ | exact ⟨rfl, _, Eq.trans (World.drewN_drewN _ _ _) (congrArg (World.drewN _) (Nat.add_assoc _ _ _))⟩)) | ((with_reducible refine gate_dst (N := 6) rfl ?_); (try (refine gate_guard (by rfl) ?_; dsimp only)); refine box_event ?hg (N := 6) ?hd (cs := #[.int .i64 0, .int .i64 0]) (t := 26) ?hr ?_; (case hd => rfl); (case hg => rfl); (case hr => first | (go_simp; done) | (go_simp; rfl)); intro gb135 hg w14 hbox hb; have n0_ := Aside0.mk (blk_below (g := gb132) (o := .cells #[.int .i64 (wrap64 (1 + t130)), .int .i64 (wrap64 (1 + t131))] 26 (0, 0)) (by (with_reducible repeat (first | refine blk_drewN ?_ _ | refine blk_drew ?_ | refine blk_alloc ?_ _)); refine blk_put (cs := #[.int .i64 (wrap64 (1 + t130)), .int .i64 0]) ?_ 1 _ rfl; (with_reducible repeat (first | refine blk_drewN ?_ _ | refine blk_drew ?_ | refine blk_alloc ?_ _)); refine blk_put (cs := #[.int .i64 0, .int .i64 0]) ?_ 0 _ rfl; (with_reducible repeat (first | refine blk_drewN ?_ _ | refine blk_drew ?_ | refine blk_alloc ?_ _)); exact BK132.out) hb); have n1_ := Aside0.mk (below_step (by repeat (first | (with_reducible first | exact HB.out | apply below_alloc | apply pw_below_drewN | apply below_drew1 | refine below_set ?_ GE132.out) | exact HB.out)) hb); have n2_ := Aside0.mk (hbox); have n3_ := Aside0.mk ((by rw [hg]; exact (below_size (by repeat (first | (with_reducible first | exact HB.out | apply below_alloc | apply pw_below_drewN | apply below_drew1 | refine below_set ?_ GE132.out) | exact HB.out))) : w.heap.size ≤ gb135)); have n4_ := Aside0.mk ((by rw [hg]; exact (below_size (by repeat (first | (with_reducible first | exact HB.out | apply below_alloc | apply pw_below_drewN | apply below_drew1 | refine below_set ?_ GE132.out) | exact HB.out))) : w.heap.size ≤ gb135)); have n5_ := Aside0.mk ((by rw [hg]; exact Nat.ne_of_lt (blk_lt (g := gb132) (o := .cells #[.int .i64 (wrap64 (1 + t130)), .int .i64 (wrap64 (1 + t131))] 26 (0, 0)) (by (with_reducible repeat (first | refine blk_drewN ?_ _ | refine blk_drew ?_ | refine blk_alloc ?_ _)); refine blk_put (cs := #[.int .i64 (wrap64 (1 + t130)), .int .i64 0]) ?_ 1 _ rfl; (with_reducible repeat (first | refine blk_drewN ?_ _ | refine blk_drew ?_ | refine blk_alloc ?_ _)); refine blk_put (cs := #[.int .i64 0, .int .i64 0]) ?_ 0 _ rfl; (with_reducible repeat (first | refine blk_drewN ?_ _ | refine blk_drew ?_ | refine blk_alloc ?_ _)); exact BK132.out)) : gb132 ≠ gb135)); have n6_ := Aside0.mk ((by rw [hg]; exact Nat.ne_of_gt (blk_lt (g := gb132) (o := .cells #[.int .i64 (wrap64 (1 + t130)), .int .i64 (wrap64 (1 + t131))] 26 (0, 0)) (by (with_reducible repeat (first | refine blk_drewN ?_ _ | refine blk_drew ?_ | refine blk_alloc ?_ _)); refine blk_put (cs := #[.int .i64 (wrap64 (1 + t130)), .int .i64 0]) ?_ 1 _ rfl; (with_reducible repeat (first | refine blk_drewN ?_ _ | refine blk_drew ?_ | refine blk_alloc ?_ _)); refine blk_put (cs := #[.int .i64 0, .int .i64 0]) ?_ 0 _ rfl; (with_reducible repeat (first | refine blk_drewN ?_ _ | refine blk_drew ?_ | refine blk_alloc ?_ _)); exact BK132.out)) : gb135 ≠ gb132)); clear BK132; clear HB; have BK132 := n0_; have HB := n1_; have BK135 := n2_; have GW135 := n3_; have GE135 := n4_; have NB132_135 := n5_; have NB135_132 := n6_; clear n0_ n1_ n2_ n3_ n4_ n5_ n6_; clear hb hbox hg; have hnb15 := NB135_132.out; have hnc15 := NB132_135.out; have hcz16_0 : w14.cell? ⟨gb135, 0, none⟩ = some (.int .i64 0) := (blk_cell BK135.out 0).trans rfl; have hcz16_1 : w14.cell? ⟨gb135, 1, none⟩ = some (.int .i64 0) := (blk_cell BK135.out 1).trans rfl; have hfz16_0 := blk_frozen BK135.out 0; have hfz16_1 := blk_frozen BK135.out 1; have hcz17_0 : w14.cell? ⟨gb132, 0, none⟩ = some (.int .i64 (wrap64 (1 + t130))) := (blk_cell BK132.out 0).trans rfl; have hcz17_1 : w14.cell? ⟨gb132, 1, none⟩ = some (.int .i64 (wrap64 (1 + t131))) := (blk_cell BK132.out 1).trans rfl; have hfz17_0 := blk_frozen BK132.out 0; have hfz17_1 := blk_frozen BK132.out 1) | (go_at_call 7; (with_reducible refine (impl_MeetCount.calls k (wrap64 (1 + t130)) (wrap64 (1 + t131)) (wrap64 (1 + t133)) (wrap64 (1 + t134)) t136 t137 _ A9.out).mono ?_); rintro e w18 ⟨rfl, hb⟩; have n0_ := Aside0.mk (blk_below (g := gb132) (o := .cells #[.int .i64 (wrap64 (1 + t130)), .int .i64 (wrap64 (1 + t131))] 26 (0, 0)) (by (with_reducible repeat (first | refine blk_drewN ?_ _ | refine blk_drew ?_ | refine blk_alloc ?_ _)); refine blk_far ?_ NB132_135.out _; (with_reducible repeat (first | refine blk_drewN ?_ _ | refine blk_drew ?_ | refine blk_alloc ?_ _)); refine blk_far ?_ NB132_135.out _; (with_reducible repeat (first | refine blk_drewN ?_ _ | refine blk_drew ?_ | refine blk_alloc ?_ _)); exact BK132.out) hb); have n1_ := Aside0.mk (blk_below (g := gb135) (o := .cells #[.int .i64 (wrap64 (1 + t133)), .int .i64 (wrap64 (1 + t134))] 26 (0, 0)) (by (with_reducible repeat (first | refine blk_drewN ?_ _ | refine blk_drew ?_ | refine blk_alloc ?_ _)); refine blk_put (cs := #[.int .i64 (wrap64 (1 + t133)), .int .i64 0]) ?_ 1 _ rfl; (with_reducible repeat (first | refine blk_drewN ?_ _ | refine blk_drew ?_ | refine blk_alloc ?_ _)); refine blk_put (cs := #[.int .i64 0, .int .i64 0]) ?_ 0 _ rfl; (with_reducible repeat (first | refine blk_drewN ?_ _ | refine blk_drew ?_ | refine blk_alloc ?_ _)); exact BK135.out) hb); have n2_ := Aside0.mk (below_step (by repeat (first | (with_reducible first | exact HB.out | apply below_alloc | apply pw_below_drewN | apply below_drew1 | refine below_set ?_ GE132.out | refine below_set ?_ GE135.out) | exact HB.out)) hb); clear BK132; clear BK135; clear HB; have BK132 := n0_; have BK135 := n1_; have HB := n2_; clear n0_ n1_ n2_; (try clear hb); (try clear hb2); (try clear hk); (try clear hi); have hcz19_0 : w18.cell? ⟨gb135, 0, none⟩ = some (.int .i64 (wrap64 (1 + t133))) := (blk_cell BK135.out 0).trans rfl; have hcz19_1 : w18.cell? ⟨gb135, 1, none⟩ = some (.int .i64 (wrap64 (1 + t134))) := (blk_cell BK135.out 1).trans rfl; have hfz19_0 := blk_frozen BK135.out 0; have hfz19_1 := blk_frozen BK135.out 1; have hcz20_0 : w18.cell? ⟨gb132, 0, none⟩ = some (.int .i64 (wrap64 (1 + t130))) := (blk_cell BK132.out 0).trans rfl; have hcz20_1 : w18.cell? ⟨gb132, 1, none⟩ = some (.int .i64 (wrap64 (1 + t131))) := (blk_cell BK132.out 1).trans rfl; have hfz20_0 := blk_frozen BK132.out 0; have hfz20_1 := blk_frozen BK132.out 1) | (go_at_call 7; (with_reducible refine (impl_MeetCount.calls k (wrap64 (1 + t133)) (wrap64 (1 + t134)) (wrap64 (1 + t130)) (wrap64 (1 + t131)) t138 t139 _ A10.out).mono ?_); rintro e w21 ⟨rfl, hb⟩; have n0_ := Aside0.mk (blk_below (g := gb132) (o := .cells #[.int .i64 (wrap64 (1 + t130)), .int .i64 (wrap64 (1 + t131))] 26 (0, 0)) (by (with_reducible repeat (first | refine blk_drewN ?_ _ | refine blk_drew ?_ | refine blk_alloc ?_ _)); exact BK132.out) hb); have n1_ := Aside0.mk (blk_below (g := gb135) (o := .cells #[.int .i64 (wrap64 (1 + t133)), .int .i64 (wrap64 (1 + t134))] 26 (0, 0)) (by (with_reducible repeat (first | refine blk_drewN ?_ _ | refine blk_drew ?_ | refine blk_alloc ?_ _)); exact BK135.out) hb); have n2_ := Aside0.mk (below_step (by repeat (first | (with_reducible first | exact HB.out | apply below_alloc | apply pw_below_drewN | apply below_drew1 | refine below_set ?_ GE132.out | refine below_set ?_ GE135.out) | exact HB.out)) hb); clear BK132; clear BK135; clear HB; have BK132 := n0_; have BK135 := n1_; have HB := n2_; clear n0_ n1_ n2_; (try clear hb); (try clear hb2); (try clear hk); (try clear hi); have hcz22_0 : w21.cell? ⟨gb135, 0, none⟩ = some (.int .i64 (wrap64 (1 + t133))) := (blk_cell BK135.out 0).trans rfl; have hcz22_1 : w21.cell? ⟨gb135, 1, none⟩ = some (.int .i64 (wrap64 (1 + t134))) := (blk_cell BK135.out 1).trans rfl; have hfz22_0 := blk_frozen BK135.out 0; have hfz22_1 := blk_frozen BK135.out 1; have hcz23_0 : w21.cell? ⟨gb132, 0, none⟩ = some (.int .i64 (wrap64 (1 + t130))) := (blk_cell BK132.out 0).trans rfl; have hcz23_1 : w21.cell? ⟨gb132, 1, none⟩ = some (.int .i64 (wrap64 (1 + t131))) := (blk_cell BK132.out 1).trans rfl; have hfz23_0 := blk_frozen BK132.out 0; have hfz23_1 := blk_frozen BK132.out 1) | ((with_reducible refine gate_dst (N := 11) rfl ?_); (try (refine gate_guard (by rfl) ?_; dsimp only)); refine box_event ?hg (N := 11) ?hd (cs := #[.int .i64 0, .int .i64 0]) (t := 26) ?hr ?_; (case hd => rfl); (case hg => rfl); (case hr => first | (go_simp; done) | (go_simp; rfl)); intro gb140 hg w24 hbox hb; have n0_ := Aside0.mk (blk_below (g := gb132) (o := .cells #[.int .i64 (wrap64 (1 + t130)), .int .i64 (wrap64 (1 + t131))] 26 (0, 0)) (by (with_reducible repeat (first | refine blk_drewN ?_ _ | refine blk_drew ?_ | refine blk_alloc ?_ _)); exact BK132.out) hb); have n1_ := Aside0.mk (blk_below (g := gb135) (o := .cells #[.int .i64 (wrap64 (1 + t133)), .int .i64 (wrap64 (1 + t134))] 26 (0, 0)) (by (with_reducible repeat (first | refine blk_drewN ?_ _ | refine blk_drew ?_ | refine blk_alloc ?_ _)); exact BK135.out) hb); have n2_ := Aside0.mk (below_step (by repeat (first | (with_reducible first | exact HB.out | apply below_alloc | apply pw_below_drewN | apply below_drew1 | refine below_set ?_ GE132.out | refine below_set ?_ GE135.out) | exact HB.out)) hb); have n3_ := Aside0.mk (hbox); have n4_ := Aside0.mk ((by rw [hg]; exact (below_size (by repeat (first | (with_reducible first | exact HB.out | apply below_alloc | apply pw_below_drewN | apply below_drew1 | refine below_set ?_ GE132.out | refine below_set ?_ GE135.out) | exact HB.out))) : w.heap.size ≤ gb140)); have n5_ := Aside0.mk ((by rw [hg]; exact (below_size (by repeat (first | (with_reducible first | exact HB.out | apply below_alloc | apply pw_below_drewN | apply below_drew1 | refine below_set ?_ GE132.out | refine below_set ?_ GE135.out) | exact HB.out))) : w.heap.size ≤ gb140)); have n6_ := Aside0.mk ((by rw [hg]; exact Nat.ne_of_lt (blk_lt (g := gb132) (o := .cells #[.int .i64 (wrap64 (1 + t130)), .int .i64 (wrap64 (1 + t131))] 26 (0, 0)) (by (with_reducible repeat (first | refine blk_drewN ?_ _ | refine blk_drew ?_ | refine blk_alloc ?_ _)); exact BK132.out)) : gb132 ≠ gb140)); have n7_ := Aside0.mk ((by rw [hg]; exact Nat.ne_of_gt (blk_lt (g := gb132) (o := .cells #[.int .i64 (wrap64 (1 + t130)), .int .i64 (wrap64 (1 + t131))] 26 (0, 0)) (by (with_reducible repeat (first | refine blk_drewN ?_ _ | refine blk_drew ?_ | refine blk_alloc ?_ _)); exact BK132.out)) : gb140 ≠ gb132)); have n8_ := Aside0.mk ((by rw [hg]; exact Nat.ne_of_lt (blk_lt (g := gb135) (o := .cells #[.int .i64 (wrap64 (1 + t133)), .int .i64 (wrap64 (1 + t134))] 26 (0, 0)) (by (with_reducible repeat (first | refine blk_drewN ?_ _ | refine blk_drew ?_ | refine blk_alloc ?_ _)); exact BK135.out)) : gb135 ≠ gb140)); have n9_ := Aside0.mk ((by rw [hg]; exact Nat.ne_of_gt (blk_lt (g := gb135) (o := .cells #[.int .i64 (wrap64 (1 + t133)), .int .i64 (wrap64 (1 + t134))] 26 (0, 0)) (by (with_reducible repeat (first | refine blk_drewN ?_ _ | refine blk_drew ?_ | refine blk_alloc ?_ _)); exact BK135.out)) : gb140 ≠ gb135)); clear BK132; clear BK135; clear HB; have BK132 := n0_; have BK135 := n1_; have HB := n2_; have BK140 := n3_; have GW140 := n4_; have GE140 := n5_; have NB132_140 := n6_; have NB140_132 := n7_; have NB135_140 := n8_; have NB140_135 := n9_; clear n0_ n1_ n2_ n3_ n4_ n5_ n6_ n7_ n8_ n9_; clear hb hbox hg; have hnb25 := NB140_132.out; have hnc25 := NB132_140.out; have hnb26 := NB140_135.out; have hnc26 := NB135_140.out; have hcz27_0 : w24.cell? ⟨gb140, 0, none⟩ = some (.int .i64 0) := (blk_cell BK140.out 0).trans rfl; have hcz27_1 : w24.cell? ⟨gb140, 1, none⟩ = some (.int .i64 0) := (blk_cell BK140.out 1).trans rfl; have hfz27_0 := blk_frozen BK140.out 0; have hfz27_1 := blk_frozen BK140.out 1; have hcz28_0 : w24.cell? ⟨gb132, 0, none⟩ = some (.int .i64 (wrap64 (1 + t130))) := (blk_cell BK132.out 0).trans rfl; have hcz28_1 : w24.cell? ⟨gb132, 1, none⟩ = some (.int .i64 (wrap64 (1 + t131))) := (blk_cell BK132.out 1).trans rfl; have hfz28_0 := blk_frozen BK132.out 0; have hfz28_1 := blk_frozen BK132.out 1) | (go_at_call 7; (with_reducible refine (impl_MeetCount.calls k (wrap64 (1 + t130)) (wrap64 (1 + t131)) (wrap64 (1 + t133)) (wrap64 (1 + t131)) t141 t142 _ A11.out).mono ?_); rintro e w29 ⟨rfl, hb⟩; have n0_ := Aside0.mk (blk_below (g := gb132) (o := .cells #[.int .i64 (wrap64 (1 + t130)), .int .i64 (wrap64 (1 + t131))] 26 (0, 0)) (by (with_reducible repeat (first | refine blk_drewN ?_ _ | refine blk_drew ?_ | refine blk_alloc ?_ _)); refine blk_far ?_ NB132_140.out _; (with_reducible repeat (first | refine blk_drewN ?_ _ | refine blk_drew ?_ | refine blk_alloc ?_ _)); refine blk_far ?_ NB132_140.out _; (with_reducible repeat (first | refine blk_drewN ?_ _ | refine blk_drew ?_ | refine blk_alloc ?_ _)); exact BK132.out) hb); have n1_ := Aside0.mk (blk_below (g := gb135) (o := .cells #[.int .i64 (wrap64 (1 + t133)), .int .i64 (wrap64 (1 + t134))] 26 (0, 0)) (by (with_reducible repeat (first | refine blk_drewN ?_ _ | refine blk_drew ?_ | refine blk_alloc ?_ _)); refine blk_far ?_ NB135_140.out _; (with_reducible repeat (first | refine blk_drewN ?_ _ | refine blk_drew ?_ | refine blk_alloc ?_ _)); refine blk_far ?_ NB135_140.out _; (with_reducible repeat (first | refine blk_drewN ?_ _ | refine blk_drew ?_ | refine blk_alloc ?_ _)); exact BK135.out) hb); have n2_ := Aside0.mk (blk_below (g := gb140) (o := .cells #[.int .i64 (wrap64 (1 + t133)), .int .i64 (wrap64 (1 + t131))] 26 (0, 0)) (by (with_reducible repeat (first | refine blk_drewN ?_ _ | refine blk_drew ?_ | refine blk_alloc ?_ _)); refine blk_put (cs := #[.int .i64 (wrap64 (1 + t133)), .int .i64 0]) ?_ 1 _ rfl; (with_reducible repeat (first | refine blk_drewN ?_ _ | refine blk_drew ?_ | refine blk_alloc ?_ _)); refine blk_put (cs := #[.int .i64 0, .int .i64 0]) ?_ 0 _ rfl; (with_reducible repeat (first | refine blk_drewN ?_ _ | refine blk_drew ?_ | refine blk_alloc ?_ _)); exact BK140.out) hb); have n3_ := Aside0.mk (below_step (by repeat (first | (with_reducible first | exact HB.out | apply below_alloc | apply pw_below_drewN | apply below_drew1 | refine below_set ?_ GE132.out | refine below_set ?_ GE135.out | refine below_set ?_ GE140.out) | exact HB.out)) hb); clear BK132; clear BK135; clear BK140; clear HB; have BK132 := n0_; have BK135 := n1_; have BK140 := n2_; have HB := n3_; clear n0_ n1_ n2_ n3_; (try clear hb); (try clear hb2); (try clear hk); (try clear hi); have hcz30_0 : w29.cell? ⟨gb132, 0, none⟩ = some (.int .i64 (wrap64 (1 + t130))) := (blk_cell BK132.out 0).trans rfl; have hcz30_1 : w29.cell? ⟨gb132, 1, none⟩ = some (.int .i64 (wrap64 (1 + t131))) := (blk_cell BK132.out 1).trans rfl; have hfz30_0 := blk_frozen BK132.out 0; have hfz30_1 := blk_frozen BK132.out 1; have hcz31_0 : w29.cell? ⟨gb135, 0, none⟩ = some (.int .i64 (wrap64 (1 + t133))) := (blk_cell BK135.out 0).trans rfl; have hcz31_1 : w29.cell? ⟨gb135, 1, none⟩ = some (.int .i64 (wrap64 (1 + t134))) := (blk_cell BK135.out 1).trans rfl; have hfz31_0 := blk_frozen BK135.out 0; have hfz31_1 := blk_frozen BK135.out 1)))
    go_loopg [14, 15] k (fun kq v14 v15 w' => ∃ (x14_1 : Int) (x15_1 : Int), v14 = .int .i64 x14_1 ∧ v15 = .int .i64 x15_1 ∧ Aside0 (laws_FnSpeeds.l0 kq t136 t137 t138 t139 t141 t142 x14_1 x15_1 (wrap64 (1 + t130)) (wrap64 (1 + t131)) (wrap64 (1 + t133)) (wrap64 (1 + t134)) = some r) ∧ Aside0 (kq ≤ k) ∧ Aside0 (w'.heap[gb132]? = some (.cells #[.int .i64 (wrap64 (1 + t130)), .int .i64 (wrap64 (1 + t131))] 26 (0, 0))) ∧ Aside0 (w'.heap[gb135]? = some (.cells #[.int .i64 (wrap64 (1 + t133)), .int .i64 (wrap64 (1 + t134))] 26 (0, 0))) ∧ Aside0 (w'.heap[gb140]? = some (.cells #[.int .i64 (wrap64 (1 + t133)), .int .i64 (wrap64 (1 + t131))] 26 (0, 0))) ∧ Aside0 (Below w.heap.size w w'))
    case atStart => exact ⟨(wrap64 (1 + t130)), (wrap64 (1 + t133)), (by first | rfl | (simp; done) | (simp [*]; done)), (by first | rfl | (simp; done) | (simp [*]; done)), H', ⟨Nat.le_refl _⟩, ⟨by (with_reducible repeat (first | refine blk_drewN ?_ _ | refine blk_drew ?_ | refine blk_alloc ?_ _)); exact BK132.out⟩, ⟨by (with_reducible repeat (first | refine blk_drewN ?_ _ | refine blk_drew ?_ | refine blk_alloc ?_ _)); exact BK135.out⟩, ⟨by (with_reducible repeat (first | refine blk_drewN ?_ _ | refine blk_drew ?_ | refine blk_alloc ?_ _)); exact BK140.out⟩, ⟨by repeat (first | (with_reducible first | exact HB.out | apply below_alloc | apply pw_below_drewN | apply below_drew1 | refine below_set ?_ GE132.out | refine below_set ?_ GE135.out | refine below_set ?_ GE140.out) | exact HB.out)⟩⟩
    case round => as_aux_lemma =>
      clear H'
      try clear c1
      try clear c2
      try clear p2
      try clear c3
      try clear c4
      try clear p6
      try clear c15
      try clear c25
      try clear c26
      try clear hcz13_0
      try clear hcz13_1
      try clear hcz16_0
      try clear hcz16_1
      try clear hcz17_0
      try clear hcz17_1
      try clear hcz19_0
      try clear hcz19_1
      try clear hcz20_0
      try clear hcz20_1
      try clear hcz22_0
      try clear hcz22_1
      try clear hcz23_0
      try clear hcz23_1
      try clear hcz27_0
      try clear hcz27_1
      try clear hcz28_0
      try clear hcz28_1
      try clear hcz30_0
      try clear hcz30_1
      try clear hcz31_0
      try clear hcz31_1
      try clear hfz13_0
      try clear hfz13_1
      try clear hfz16_0
      try clear hfz16_1
      try clear hfz17_0
      try clear hfz17_1
      try clear hfz19_0
      try clear hfz19_1
      try clear hfz20_0
      try clear hfz20_1
      try clear hfz22_0
      try clear hfz22_1
      try clear hfz23_0
      try clear hfz23_1
      try clear hfz27_0
      try clear hfz27_1
      try clear hfz28_0
      try clear hfz28_1
      try clear hfz30_0
      try clear hfz30_1
      try clear hfz31_0
      try clear hfz31_1
      obtain ⟨x14_1, x15_1, rfl, rfl, HA, HK1, BK132, BK135, BK140, HB⟩ := hrel
      cases gk with
      | zero => exact absurd HA.out (by simp [laws_FnSpeeds.l0])
      | succ k1 =>
        have H := HA.out
        clear HA
        simp only [laws_FnSpeeds.l0] at H
        by_cases c32 : x15_1 > 0
        · rw [if_pos c32] at H
          have c32b0 : decide (0 < x15_1) = true := decide_eq_true c32
          clear c32
          by_cases c33 : x15_1 = 0
          · rw [if_pos c33] at H
            exact absurd H (by simp)
          · rw [if_neg c33] at H
            have c33b0 : (x15_1 == 0) = false := beq_eq_false_iff_ne.mpr c33
            have c33b1 : (x15_1 != 0) = true := bne_iff_ne.mpr c33
            have H' := Aside0.mk H
            clear H
            go_wp2
            repeat (go_quiet (fail); try go_wp2)
            go_roundg k1
            case measure => have := HK1.out; omega
            case rel => exact ⟨(x15_1), (Int.tmod x14_1 x15_1), (by first | rfl | (simp; done) | (simp [*]; done)), (by first | rfl | (simp; done) | (simp [*]; done)), H', ⟨by have := HK1.out; omega⟩, ⟨by (with_reducible repeat (first | refine blk_drewN ?_ _ | refine blk_drew ?_ | refine blk_alloc ?_ _)); exact BK132.out⟩, ⟨by (with_reducible repeat (first | refine blk_drewN ?_ _ | refine blk_drew ?_ | refine blk_alloc ?_ _)); exact BK135.out⟩, ⟨by (with_reducible repeat (first | refine blk_drewN ?_ _ | refine blk_drew ?_ | refine blk_alloc ?_ _)); exact BK140.out⟩, ⟨by repeat (first | (with_reducible first | exact HB.out | apply below_alloc | apply pw_below_drewN | apply below_drew1 | refine below_set ?_ GE132.out | refine below_set ?_ GE135.out | refine below_set ?_ GE140.out) | exact HB.out)⟩⟩
        · rw [if_neg c32] at H
          have c32b0 : decide (0 < x15_1) = false := decide_eq_false c32
          clear c32
          have HC34 := Aside0.mk H
          clear H
          go_upto_region 15 with (fail)
          repeat (go_quiet (fail); go_upto_region 15 with (fail))
          go_cut [100] (fun v100 wc => ∃ (kq : Nat) (x100_33 : Bool), v100 = .bool x100_33 ∧ Aside0 (laws_FnSpeeds.j1 kq t136 x100_33 (wrap64 (1 + t130)) (wrap64 (1 + t131)) (wrap64 (1 + t133)) (wrap64 (1 + t134)) = some r) ∧ Aside0 (kq ≤ k1) ∧ Aside0 (wc.heap[gb132]? = some (.cells #[.int .i64 (wrap64 (1 + t130)), .int .i64 (wrap64 (1 + t131))] 26 (0, 0))) ∧ Aside0 (wc.heap[gb135]? = some (.cells #[.int .i64 (wrap64 (1 + t133)), .int .i64 (wrap64 (1 + t134))] 26 (0, 0))) ∧ Aside0 (wc.heap[gb140]? = some (.cells #[.int .i64 (wrap64 (1 + t133)), .int .i64 (wrap64 (1 + t131))] 26 (0, 0))) ∧ Aside0 (Below w.heap.size w wc))
          case first => as_aux_lemma =>
            have H := HC34.out
            clear HC34
            by_cases c35 : t137 = 0
            · rw [if_pos c35] at H
              have c35b0 : (t137 == 0) = true := beq_iff_eq.mpr c35
              have c35b1 : (t137 != 0) = false := bne_eq_false_iff_eq.mpr c35
              clear c35
              (first | rw [c35b0] | (simp only [i64_w, i32_w]; rw [c35b0]) | skip)
              by_cases c36 : t139 = 0
              · rw [if_pos c36] at H
                have c36b0 : (t139 == 0) = true := beq_iff_eq.mpr c36
                have c36b1 : (t139 != 0) = false := bne_eq_false_iff_eq.mpr c36
                clear c36
                by_cases c37 : t136 = t138
                · rw [if_pos c37] at H
                  have c37b0 : (t136 == t138) = true := beq_iff_eq.mpr c37
                  have c37b1 : (t136 != t138) = false := bne_eq_false_iff_eq.mpr c37
                  clear c37
                  by_cases c38 : t136 < 1
                  · rw [if_pos c38] at H
                    have c38b0 : decide (t136 < 1) = true := decide_eq_true c38
                    clear c38
                    have H' := Aside0.mk H
                    clear H
                    go_wp2
                    repeat (go_quiet (fail); try go_wp2)
                    go_meet
                    case rel => exact ⟨_, (true), (by first | rfl | (simp; done) | (simp [*]; done)), H', ⟨by have := HK1.out; first | omega | exact Nat.le_refl _⟩, ⟨by (with_reducible repeat (first | refine blk_drewN ?_ _ | refine blk_drew ?_ | refine blk_alloc ?_ _)); exact BK132.out⟩, ⟨by (with_reducible repeat (first | refine blk_drewN ?_ _ | refine blk_drew ?_ | refine blk_alloc ?_ _)); exact BK135.out⟩, ⟨by (with_reducible repeat (first | refine blk_drewN ?_ _ | refine blk_drew ?_ | refine blk_alloc ?_ _)); exact BK140.out⟩, ⟨by repeat (first | (with_reducible first | exact HB.out | apply below_alloc | apply pw_below_drewN | apply below_drew1 | refine below_set ?_ GE132.out | refine below_set ?_ GE135.out | refine below_set ?_ GE140.out) | exact HB.out)⟩⟩
                  · rw [if_neg c38] at H
                    have c38b0 : decide (t136 < 1) = false := decide_eq_false c38
                    clear c38
                    by_cases c39 : t142 = 0
                    · rw [if_pos c39] at H
                      have c39b0 : (t142 == 0) = true := beq_iff_eq.mpr c39
                      have c39b1 : (t142 != 0) = false := bne_eq_false_iff_eq.mpr c39
                      clear c39
                      have H' := Aside0.mk H
                      clear H
                      go_wp2
                      repeat (go_quiet (fail); try go_wp2)
                      go_meet
                      case rel => exact ⟨_, ((t141 != x14_1)), (by first | rfl | (simp; done) | (simp [*]; done)), H', ⟨by have := HK1.out; first | omega | exact Nat.le_refl _⟩, ⟨by (with_reducible repeat (first | refine blk_drewN ?_ _ | refine blk_drew ?_ | refine blk_alloc ?_ _)); exact BK132.out⟩, ⟨by (with_reducible repeat (first | refine blk_drewN ?_ _ | refine blk_drew ?_ | refine blk_alloc ?_ _)); exact BK135.out⟩, ⟨by (with_reducible repeat (first | refine blk_drewN ?_ _ | refine blk_drew ?_ | refine blk_alloc ?_ _)); exact BK140.out⟩, ⟨by repeat (first | (with_reducible first | exact HB.out | apply below_alloc | apply pw_below_drewN | apply below_drew1 | refine below_set ?_ GE132.out | refine below_set ?_ GE135.out | refine below_set ?_ GE140.out) | exact HB.out)⟩⟩
                    · rw [if_neg c39] at H
                      have c39b0 : (t142 == 0) = false := beq_eq_false_iff_ne.mpr c39
                      have c39b1 : (t142 != 0) = true := bne_iff_ne.mpr c39
                      have H' := Aside0.mk H
                      clear H
                      go_wp2
                      repeat (go_quiet (fail); try go_wp2)
                      go_meet
                      case rel => exact ⟨_, (true), (by first | rfl | (simp; done) | (simp [*]; done)), H', ⟨by have := HK1.out; first | omega | exact Nat.le_refl _⟩, ⟨by (with_reducible repeat (first | refine blk_drewN ?_ _ | refine blk_drew ?_ | refine blk_alloc ?_ _)); exact BK132.out⟩, ⟨by (with_reducible repeat (first | refine blk_drewN ?_ _ | refine blk_drew ?_ | refine blk_alloc ?_ _)); exact BK135.out⟩, ⟨by (with_reducible repeat (first | refine blk_drewN ?_ _ | refine blk_drew ?_ | refine blk_alloc ?_ _)); exact BK140.out⟩, ⟨by repeat (first | (with_reducible first | exact HB.out | apply below_alloc | apply pw_below_drewN | apply below_drew1 | refine below_set ?_ GE132.out | refine below_set ?_ GE135.out | refine below_set ?_ GE140.out) | exact HB.out)⟩⟩
                · rw [if_neg c37] at H
                  have c37b0 : (t136 == t138) = false := beq_eq_false_iff_ne.mpr c37
                  have c37b1 : (t136 != t138) = true := bne_iff_ne.mpr c37
                  have H' := Aside0.mk H
                  clear H
                  go_wp2
                  repeat (go_quiet (fail); try go_wp2)
                  go_meet
                  case rel => exact ⟨_, (true), (by first | rfl | (simp; done) | (simp [*]; done)), H', ⟨by have := HK1.out; first | omega | exact Nat.le_refl _⟩, ⟨by (with_reducible repeat (first | refine blk_drewN ?_ _ | refine blk_drew ?_ | refine blk_alloc ?_ _)); exact BK132.out⟩, ⟨by (with_reducible repeat (first | refine blk_drewN ?_ _ | refine blk_drew ?_ | refine blk_alloc ?_ _)); exact BK135.out⟩, ⟨by (with_reducible repeat (first | refine blk_drewN ?_ _ | refine blk_drew ?_ | refine blk_alloc ?_ _)); exact BK140.out⟩, ⟨by repeat (first | (with_reducible first | exact HB.out | apply below_alloc | apply pw_below_drewN | apply below_drew1 | refine below_set ?_ GE132.out | refine below_set ?_ GE135.out | refine below_set ?_ GE140.out) | exact HB.out)⟩⟩
              · rw [if_neg c36] at H
                have c36b0 : (t139 == 0) = false := beq_eq_false_iff_ne.mpr c36
                have c36b1 : (t139 != 0) = true := bne_iff_ne.mpr c36
                have H' := Aside0.mk H
                clear H
                go_wp2
                repeat (go_quiet (fail); try go_wp2)
                go_meet
                case rel => exact ⟨_, (true), (by first | rfl | (simp; done) | (simp [*]; done)), H', ⟨by have := HK1.out; first | omega | exact Nat.le_refl _⟩, ⟨by (with_reducible repeat (first | refine blk_drewN ?_ _ | refine blk_drew ?_ | refine blk_alloc ?_ _)); exact BK132.out⟩, ⟨by (with_reducible repeat (first | refine blk_drewN ?_ _ | refine blk_drew ?_ | refine blk_alloc ?_ _)); exact BK135.out⟩, ⟨by (with_reducible repeat (first | refine blk_drewN ?_ _ | refine blk_drew ?_ | refine blk_alloc ?_ _)); exact BK140.out⟩, ⟨by repeat (first | (with_reducible first | exact HB.out | apply below_alloc | apply pw_below_drewN | apply below_drew1 | refine below_set ?_ GE132.out | refine below_set ?_ GE135.out | refine below_set ?_ GE140.out) | exact HB.out)⟩⟩
            · rw [if_neg c35] at H
              have c35b0 : (t137 == 0) = false := beq_eq_false_iff_ne.mpr c35
              have c35b1 : (t137 != 0) = true := bne_iff_ne.mpr c35
              (first | rw [c35b0] | (simp only [i64_w, i32_w]; rw [c35b0]) | skip)
              have H' := Aside0.mk H
              clear H
              go_wp2
              repeat (go_quiet (fail); try go_wp2)
              go_meet
              case rel => exact ⟨_, (true), (by first | rfl | (simp; done) | (simp [*]; done)), H', ⟨by have := HK1.out; first | omega | exact Nat.le_refl _⟩, ⟨by (with_reducible repeat (first | refine blk_drewN ?_ _ | refine blk_drew ?_ | refine blk_alloc ?_ _)); exact BK132.out⟩, ⟨by (with_reducible repeat (first | refine blk_drewN ?_ _ | refine blk_drew ?_ | refine blk_alloc ?_ _)); exact BK135.out⟩, ⟨by (with_reducible repeat (first | refine blk_drewN ?_ _ | refine blk_drew ?_ | refine blk_alloc ?_ _)); exact BK140.out⟩, ⟨by repeat (first | (with_reducible first | exact HB.out | apply below_alloc | apply pw_below_drewN | apply below_drew1 | refine below_set ?_ GE132.out | refine below_set ?_ GE135.out | refine below_set ?_ GE140.out) | exact HB.out)⟩⟩
          case rest => as_aux_lemma =>
            clear HC34
            try clear c1
            try clear c2
            try clear p2
            try clear c3
            try clear c4
            try clear p6
            try clear c15
            try clear c25
            try clear c26
            try clear c32
            try clear c32b0
            try clear c33
            try clear c33b0
            try clear c33b1
            try clear c35
            try clear c35b0
            try clear c35b1
            try clear c36
            try clear c36b0
            try clear c36b1
            try clear c37
            try clear c37b0
            try clear c37b1
            try clear c38
            try clear c38b0
            try clear c39
            try clear c39b0
            try clear c39b1
            try clear hcz13_0
            try clear hcz13_1
            try clear hcz16_0
            try clear hcz16_1
            try clear hcz17_0
            try clear hcz17_1
            try clear hcz19_0
            try clear hcz19_1
            try clear hcz20_0
            try clear hcz20_1
            try clear hcz22_0
            try clear hcz22_1
            try clear hcz23_0
            try clear hcz23_1
            try clear hcz27_0
            try clear hcz27_1
            try clear hcz28_0
            try clear hcz28_1
            try clear hcz30_0
            try clear hcz30_1
            try clear hcz31_0
            try clear hcz31_1
            try clear hfz13_0
            try clear hfz13_1
            try clear hfz16_0
            try clear hfz16_1
            try clear hfz17_0
            try clear hfz17_1
            try clear hfz19_0
            try clear hfz19_1
            try clear hfz20_0
            try clear hfz20_1
            try clear hfz22_0
            try clear hfz22_1
            try clear hfz23_0
            try clear hfz23_1
            try clear hfz27_0
            try clear hfz27_1
            try clear hfz28_0
            try clear hfz28_1
            try clear hfz30_0
            try clear hfz30_1
            try clear hfz31_0
            try clear hfz31_1
            try clear p2
            try clear p6
            obtain ⟨kq, x100_33, rfl, HA, HJ33, BK132, BK135, BK140, HB⟩ := hcut
            cases kq with
            | zero => exact absurd HA.out (by simp [laws_FnSpeeds.j1])
            | succ kj33 =>
              have H := HA.out
              clear HA
              simp only [laws_FnSpeeds.j1] at H
              by_cases c40 : x100_33 = true
              · subst c40
                have H1 : (some false) = some r := by rw [if_pos rfl] at H; exact H
                clear H
                have H := H1
                clear H1
                obtain rfl := Option.some.inj H
                go_wp2
                repeat (go_quiet (fail); try go_wp2)
                go_ret
                exact ⟨by first | rfl | (simp [errW_none, errW_some] <;> rfl) | (simp [*, errW_none, errW_some] <;> rfl), by repeat (first | (with_reducible first | exact HB.out | apply below_alloc | apply pw_below_drewN | apply below_drew1 | refine below_set ?_ GE132.out | refine below_set ?_ GE135.out | refine below_set ?_ GE140.out) | exact HB.out)⟩
              · replace c40 := Bool.eq_false_iff.mpr c40
                subst c40
                have H1 : ((impl_TicksFor.f kj33 (([(⟨(wrap64 (1 + t130)), (wrap64 (1 + t131))⟩ : S26), (⟨(wrap64 (1 + t133)), (wrap64 (1 + t134))⟩ : S26)] : List (S26)))).bind fun bt146 => ((impl_MergeLayers.f kj33 (([(⟨(wrap64 (1 + t130)), (wrap64 (1 + t131))⟩ : S26), (⟨(wrap64 (1 + t133)), (wrap64 (1 + t134))⟩ : S26)] : List (S26)))).bind fun bt151 => ((impl_HitTicks.f kj33 (wrap64 (1 + t130)) (wrap64 (1 + t131)) bt146.1).bind fun bt155 => (if bt146.2 = 0 then (if bt151.2 = 0 then (if bt155.2 = 0 then (if (bt155.1.length : Int) = (wrap64 (1 + t130)) then (laws_FnSpeeds.j2 kj33 bt146.1 bt151.1 bt155.1 ((wrap64 ((bt151.1.length : Int) + t136)) != (wrap64 ((wrap64 (1 + t130)) + (wrap64 (1 + t133))))) (wrap64 (1 + t130)) (wrap64 (1 + t131)) (wrap64 (1 + t133)) (wrap64 (1 + t134))) else (laws_FnSpeeds.j2 kj33 bt146.1 bt151.1 bt155.1 true (wrap64 (1 + t130)) (wrap64 (1 + t131)) (wrap64 (1 + t133)) (wrap64 (1 + t134)))) else (laws_FnSpeeds.j2 kj33 bt146.1 bt151.1 bt155.1 true (wrap64 (1 + t130)) (wrap64 (1 + t131)) (wrap64 (1 + t133)) (wrap64 (1 + t134)))) else (laws_FnSpeeds.j2 kj33 bt146.1 bt151.1 bt155.1 true (wrap64 (1 + t130)) (wrap64 (1 + t131)) (wrap64 (1 + t133)) (wrap64 (1 + t134)))) else (laws_FnSpeeds.j2 kj33 bt146.1 bt151.1 bt155.1 true (wrap64 (1 + t130)) (wrap64 (1 + t131)) (wrap64 (1 + t133)) (wrap64 (1 + t134))))))) = some r := by rw [if_neg (show ¬ (false = true) by decide)] at H; exact H
                clear H
                have H := H1
                clear H1
                obtain ⟨y143, hy143⟩ : ∃ y_ : List (S26), y_ = (([(⟨(wrap64 (1 + t130)), (wrap64 (1 + t131))⟩ : S26), (⟨(wrap64 (1 + t133)), (wrap64 (1 + t134))⟩ : S26)] : List (S26))) := ⟨_, rfl⟩
                replace H : ((impl_TicksFor.f kj33 y143).bind fun bt146 => ((impl_MergeLayers.f kj33 (([(⟨(wrap64 (1 + t130)), (wrap64 (1 + t131))⟩ : S26), (⟨(wrap64 (1 + t133)), (wrap64 (1 + t134))⟩ : S26)] : List (S26)))).bind fun bt151 => ((impl_HitTicks.f kj33 (wrap64 (1 + t130)) (wrap64 (1 + t131)) bt146.1).bind fun bt155 => (if bt146.2 = 0 then (if bt151.2 = 0 then (if bt155.2 = 0 then (if (bt155.1.length : Int) = (wrap64 (1 + t130)) then (laws_FnSpeeds.j2 kj33 bt146.1 bt151.1 bt155.1 ((wrap64 ((bt151.1.length : Int) + t136)) != (wrap64 ((wrap64 (1 + t130)) + (wrap64 (1 + t133))))) (wrap64 (1 + t130)) (wrap64 (1 + t131)) (wrap64 (1 + t133)) (wrap64 (1 + t134))) else (laws_FnSpeeds.j2 kj33 bt146.1 bt151.1 bt155.1 true (wrap64 (1 + t130)) (wrap64 (1 + t131)) (wrap64 (1 + t133)) (wrap64 (1 + t134)))) else (laws_FnSpeeds.j2 kj33 bt146.1 bt151.1 bt155.1 true (wrap64 (1 + t130)) (wrap64 (1 + t131)) (wrap64 (1 + t133)) (wrap64 (1 + t134)))) else (laws_FnSpeeds.j2 kj33 bt146.1 bt151.1 bt155.1 true (wrap64 (1 + t130)) (wrap64 (1 + t131)) (wrap64 (1 + t133)) (wrap64 (1 + t134)))) else (laws_FnSpeeds.j2 kj33 bt146.1 bt151.1 bt155.1 true (wrap64 (1 + t130)) (wrap64 (1 + t131)) (wrap64 (1 + t133)) (wrap64 (1 + t134))))))) = some r := by first | (rw [hy143]; with_reducible exact H) | (have H2_ := (Option.bind_some _ _).symm.trans H; rw [hy143]; with_reducible exact H2_) | (have H2_ := (Option.bind_some _ _).symm.trans H; with_reducible exact H2_) | with_reducible exact H | (rw [hy143]; exact H) | exact H
                have Ny143 := Aside0.mk hy143
                clear hy143
                replace H := Option.bind_eq_some_iff.mp H
                obtain ⟨⟨t146, t147⟩, A410, H⟩ := H
                replace H : ((impl_MergeLayers.f kj33 (([(⟨(wrap64 (1 + t130)), (wrap64 (1 + t131))⟩ : S26), (⟨(wrap64 (1 + t133)), (wrap64 (1 + t134))⟩ : S26)] : List (S26)))).bind fun bt151 => ((impl_HitTicks.f kj33 (wrap64 (1 + t130)) (wrap64 (1 + t131)) t146).bind fun bt155 => (if t147 = 0 then (if bt151.2 = 0 then (if bt155.2 = 0 then (if (bt155.1.length : Int) = (wrap64 (1 + t130)) then (laws_FnSpeeds.j2 kj33 t146 bt151.1 bt155.1 ((wrap64 ((bt151.1.length : Int) + t136)) != (wrap64 ((wrap64 (1 + t130)) + (wrap64 (1 + t133))))) (wrap64 (1 + t130)) (wrap64 (1 + t131)) (wrap64 (1 + t133)) (wrap64 (1 + t134))) else (laws_FnSpeeds.j2 kj33 t146 bt151.1 bt155.1 true (wrap64 (1 + t130)) (wrap64 (1 + t131)) (wrap64 (1 + t133)) (wrap64 (1 + t134)))) else (laws_FnSpeeds.j2 kj33 t146 bt151.1 bt155.1 true (wrap64 (1 + t130)) (wrap64 (1 + t131)) (wrap64 (1 + t133)) (wrap64 (1 + t134)))) else (laws_FnSpeeds.j2 kj33 t146 bt151.1 bt155.1 true (wrap64 (1 + t130)) (wrap64 (1 + t131)) (wrap64 (1 + t133)) (wrap64 (1 + t134)))) else (laws_FnSpeeds.j2 kj33 t146 bt151.1 bt155.1 true (wrap64 (1 + t130)) (wrap64 (1 + t131)) (wrap64 (1 + t133)) (wrap64 (1 + t134)))))) = some r := H
                have A41 := Aside0.mk A410
                clear A410
                obtain ⟨y148, hy148⟩ : ∃ y_ : List (S26), y_ = (([(⟨(wrap64 (1 + t130)), (wrap64 (1 + t131))⟩ : S26), (⟨(wrap64 (1 + t133)), (wrap64 (1 + t134))⟩ : S26)] : List (S26))) := ⟨_, rfl⟩
                replace H : ((impl_MergeLayers.f kj33 y148).bind fun bt151 => ((impl_HitTicks.f kj33 (wrap64 (1 + t130)) (wrap64 (1 + t131)) t146).bind fun bt155 => (if t147 = 0 then (if bt151.2 = 0 then (if bt155.2 = 0 then (if (bt155.1.length : Int) = (wrap64 (1 + t130)) then (laws_FnSpeeds.j2 kj33 t146 bt151.1 bt155.1 ((wrap64 ((bt151.1.length : Int) + t136)) != (wrap64 ((wrap64 (1 + t130)) + (wrap64 (1 + t133))))) (wrap64 (1 + t130)) (wrap64 (1 + t131)) (wrap64 (1 + t133)) (wrap64 (1 + t134))) else (laws_FnSpeeds.j2 kj33 t146 bt151.1 bt155.1 true (wrap64 (1 + t130)) (wrap64 (1 + t131)) (wrap64 (1 + t133)) (wrap64 (1 + t134)))) else (laws_FnSpeeds.j2 kj33 t146 bt151.1 bt155.1 true (wrap64 (1 + t130)) (wrap64 (1 + t131)) (wrap64 (1 + t133)) (wrap64 (1 + t134)))) else (laws_FnSpeeds.j2 kj33 t146 bt151.1 bt155.1 true (wrap64 (1 + t130)) (wrap64 (1 + t131)) (wrap64 (1 + t133)) (wrap64 (1 + t134)))) else (laws_FnSpeeds.j2 kj33 t146 bt151.1 bt155.1 true (wrap64 (1 + t130)) (wrap64 (1 + t131)) (wrap64 (1 + t133)) (wrap64 (1 + t134)))))) = some r := by first | (rw [hy148]; with_reducible exact H) | (have H2_ := (Option.bind_some _ _).symm.trans H; rw [hy148]; with_reducible exact H2_) | (have H2_ := (Option.bind_some _ _).symm.trans H; with_reducible exact H2_) | with_reducible exact H | (rw [hy148]; exact H) | exact H
                have Ny148 := Aside0.mk hy148
                clear hy148
                replace H := Option.bind_eq_some_iff.mp H
                obtain ⟨⟨t151, t152⟩, A420, H⟩ := H
                replace H : ((impl_HitTicks.f kj33 (wrap64 (1 + t130)) (wrap64 (1 + t131)) t146).bind fun bt155 => (if t147 = 0 then (if t152 = 0 then (if bt155.2 = 0 then (if (bt155.1.length : Int) = (wrap64 (1 + t130)) then (laws_FnSpeeds.j2 kj33 t146 t151 bt155.1 ((wrap64 ((t151.length : Int) + t136)) != (wrap64 ((wrap64 (1 + t130)) + (wrap64 (1 + t133))))) (wrap64 (1 + t130)) (wrap64 (1 + t131)) (wrap64 (1 + t133)) (wrap64 (1 + t134))) else (laws_FnSpeeds.j2 kj33 t146 t151 bt155.1 true (wrap64 (1 + t130)) (wrap64 (1 + t131)) (wrap64 (1 + t133)) (wrap64 (1 + t134)))) else (laws_FnSpeeds.j2 kj33 t146 t151 bt155.1 true (wrap64 (1 + t130)) (wrap64 (1 + t131)) (wrap64 (1 + t133)) (wrap64 (1 + t134)))) else (laws_FnSpeeds.j2 kj33 t146 t151 bt155.1 true (wrap64 (1 + t130)) (wrap64 (1 + t131)) (wrap64 (1 + t133)) (wrap64 (1 + t134)))) else (laws_FnSpeeds.j2 kj33 t146 t151 bt155.1 true (wrap64 (1 + t130)) (wrap64 (1 + t131)) (wrap64 (1 + t133)) (wrap64 (1 + t134))))) = some r := H
                have A42 := Aside0.mk A420
                clear A420
                replace H := Option.bind_eq_some_iff.mp H
                obtain ⟨⟨t155, t158⟩, A430, H⟩ := H
                replace H : (if t147 = 0 then (if t152 = 0 then (if t158 = 0 then (if (t155.length : Int) = (wrap64 (1 + t130)) then (laws_FnSpeeds.j2 kj33 t146 t151 t155 ((wrap64 ((t151.length : Int) + t136)) != (wrap64 ((wrap64 (1 + t130)) + (wrap64 (1 + t133))))) (wrap64 (1 + t130)) (wrap64 (1 + t131)) (wrap64 (1 + t133)) (wrap64 (1 + t134))) else (laws_FnSpeeds.j2 kj33 t146 t151 t155 true (wrap64 (1 + t130)) (wrap64 (1 + t131)) (wrap64 (1 + t133)) (wrap64 (1 + t134)))) else (laws_FnSpeeds.j2 kj33 t146 t151 t155 true (wrap64 (1 + t130)) (wrap64 (1 + t131)) (wrap64 (1 + t133)) (wrap64 (1 + t134)))) else (laws_FnSpeeds.j2 kj33 t146 t151 t155 true (wrap64 (1 + t130)) (wrap64 (1 + t131)) (wrap64 (1 + t133)) (wrap64 (1 + t134)))) else (laws_FnSpeeds.j2 kj33 t146 t151 t155 true (wrap64 (1 + t130)) (wrap64 (1 + t131)) (wrap64 (1 + t133)) (wrap64 (1 + t134)))) = some r := H
                have A43 := Aside0.mk A430
                clear A430
                have HC44 := Aside0.mk H
                clear H
                have hnb45 := NB132_135.out
                have hnc45 := NB135_132.out
                have hnb46 := NB132_140.out
                have hnc46 := NB140_132.out
                have hcz47_0 : wc.cell? ⟨gb132, 0, none⟩ = some (.int .i64 (wrap64 (1 + t130))) := (blk_cell BK132.out 0).trans rfl
                have hcz47_1 : wc.cell? ⟨gb132, 1, none⟩ = some (.int .i64 (wrap64 (1 + t131))) := (blk_cell BK132.out 1).trans rfl
                have hfz47_0 := blk_frozen BK132.out 0
                have hfz47_1 := blk_frozen BK132.out 1
                have hnb48 := NB135_140.out
                have hnc48 := NB140_135.out
                have hcz49_0 : wc.cell? ⟨gb135, 0, none⟩ = some (.int .i64 (wrap64 (1 + t133))) := (blk_cell BK135.out 0).trans rfl
                have hcz49_1 : wc.cell? ⟨gb135, 1, none⟩ = some (.int .i64 (wrap64 (1 + t134))) := (blk_cell BK135.out 1).trans rfl
                have hfz49_0 := blk_frozen BK135.out 0
                have hfz49_1 := blk_frozen BK135.out 1
                go_upto_region 20 with (first | ((with_reducible refine gate_dst (N := 104) rfl ?_); (try (refine gate_guard (by rfl) ?_; dsimp only)); refine Kd.R_lit k26 _ 26 ?hg (N := 104) ?hd (xs := ([(⟨(wrap64 (1 + t130)), (wrap64 (1 + t131))⟩ : S26), (⟨(wrap64 (1 + t133)), (wrap64 (1 + t134))⟩ : S26)] : List (S26))) (inner := [.int .i64 (wrap64 (1 + t130)), .int .i64 (wrap64 (1 + t131)), .int .i64 (wrap64 (1 + t133)), .int .i64 (wrap64 (1 + t134))]) (ok := fun _ => True) (okp := fun _ => True) ?hr ?hp (fun _ hk => hk) trivial (Below.refl _ _) (Nat.le_refl _) (by simp) ?_; (case hd => rfl); (case hg => rfl); (case hr => first | (go_simp; done) | (go_simp; rfl)); (case hp => exact (Reps.c2 (show Kd.M k26 _ _ _ (⟨(wrap64 (1 + t130)), (wrap64 (1 + t131))⟩ : S26) [.int .i64 (wrap64 (1 + t130)), .int .i64 (wrap64 (1 + t131))] from (k26_mkM _ _ _ (⟨(wrap64 (1 + t130)), (wrap64 (1 + t131))⟩ : S26) )) (Reps.c2 (show Kd.M k26 _ _ _ (⟨(wrap64 (1 + t133)), (wrap64 (1 + t134))⟩ : S26) [.int .i64 (wrap64 (1 + t133)), .int .i64 (wrap64 (1 + t134))] from (k26_mkM _ _ _ (⟨(wrap64 (1 + t133)), (wrap64 (1 + t134))⟩ : S26) )) (Reps.none _ _)))); intro v144 w50 ho51 hb hg_ hnew_; clear hg_ hnew_; (first | rw [← Ny143.out] at ho51 | (simp only [Int.reduceToNat] at ho51; rw [← Ny143.out] at ho51)); have n0_ := Aside0.mk (Kd.R_lower (Kd.R_newB (Kd.R_newB (Kd.R_newB ho51 (g := gb132) (o := .cells #[.int .i64 (wrap64 (1 + t130)), .int .i64 (wrap64 (1 + t131))] 26 (0, 0)) (by (with_reducible repeat (first | refine blk_drewN ?_ _ | refine blk_drew ?_ | refine blk_alloc ?_ _)); exact BK132.out)) (g := gb135) (o := .cells #[.int .i64 (wrap64 (1 + t133)), .int .i64 (wrap64 (1 + t134))] 26 (0, 0)) (by (with_reducible repeat (first | refine blk_drewN ?_ _ | refine blk_drew ?_ | refine blk_alloc ?_ _)); exact BK135.out)) (g := gb140) (o := .cells #[.int .i64 (wrap64 (1 + t133)), .int .i64 (wrap64 (1 + t131))] 26 (0, 0)) (by (with_reducible repeat (first | refine blk_drewN ?_ _ | refine blk_drew ?_ | refine blk_alloc ?_ _)); exact BK140.out)) (below_size (by repeat (first | (with_reducible first | exact HB.out | apply below_alloc | apply pw_below_drewN | apply below_drew1 | refine below_set ?_ GE132.out | refine below_set ?_ GE135.out | refine below_set ?_ GE140.out) | exact HB.out)))); have n1_ := Aside0.mk (blk_below (g := gb132) (o := .cells #[.int .i64 (wrap64 (1 + t130)), .int .i64 (wrap64 (1 + t131))] 26 (0, 0)) (by (with_reducible repeat (first | refine blk_drewN ?_ _ | refine blk_drew ?_ | refine blk_alloc ?_ _)); exact BK132.out) hb); have n2_ := Aside0.mk (blk_below (g := gb135) (o := .cells #[.int .i64 (wrap64 (1 + t133)), .int .i64 (wrap64 (1 + t134))] 26 (0, 0)) (by (with_reducible repeat (first | refine blk_drewN ?_ _ | refine blk_drew ?_ | refine blk_alloc ?_ _)); exact BK135.out) hb); have n3_ := Aside0.mk (blk_below (g := gb140) (o := .cells #[.int .i64 (wrap64 (1 + t133)), .int .i64 (wrap64 (1 + t131))] 26 (0, 0)) (by (with_reducible repeat (first | refine blk_drewN ?_ _ | refine blk_drew ?_ | refine blk_alloc ?_ _)); exact BK140.out) hb); have n4_ := Aside0.mk (below_step (by repeat (first | (with_reducible first | exact HB.out | apply below_alloc | apply pw_below_drewN | apply below_drew1 | refine below_set ?_ GE132.out | refine below_set ?_ GE135.out | refine below_set ?_ GE140.out) | exact HB.out)) hb); clear BK132; clear BK135; clear BK140; clear HB; have HO145 := n0_; have BK132 := n1_; have BK135 := n2_; have BK140 := n3_; have HB := n4_; clear n0_ n1_ n2_ n3_ n4_; clear hb ho51; obtain ⟨Ao52, co52, eo52⟩ := Kd.R_slice HO145.out; subst eo52) | (go_at_call 8; (with_reducible refine (impl_TicksFor.calls kj33 _ _ y143 t146 t147 _ ?side1 ?side2 A41.out).mono ?_); (case side1 => repeat (first | exact (Kd.R_reads' HO145.out).2.2 | (with_reducible refine Kd.C_alloc ?_ _) | (with_reducible refine Kd.C_drewN ?_ _) | (with_reducible refine Kd.C_drew ?_))); (case side2 => exact (Kd.R_reads' HO145.out).2.1); rintro e w53 ⟨rfl, hb⟩; have n0_ := Aside0.mk (Kd.R_below (by (with_reducible repeat (first | apply Kd.R_alloc | apply Kd.R_drewN | apply Kd.R_drew)); exact HO145.out) hb); have n1_ := Aside0.mk (blk_below (g := gb132) (o := .cells #[.int .i64 (wrap64 (1 + t130)), .int .i64 (wrap64 (1 + t131))] 26 (0, 0)) (by (with_reducible repeat (first | refine blk_drewN ?_ _ | refine blk_drew ?_ | refine blk_alloc ?_ _)); exact BK132.out) hb); have n2_ := Aside0.mk (blk_below (g := gb135) (o := .cells #[.int .i64 (wrap64 (1 + t133)), .int .i64 (wrap64 (1 + t134))] 26 (0, 0)) (by (with_reducible repeat (first | refine blk_drewN ?_ _ | refine blk_drew ?_ | refine blk_alloc ?_ _)); exact BK135.out) hb); have n3_ := Aside0.mk (blk_below (g := gb140) (o := .cells #[.int .i64 (wrap64 (1 + t133)), .int .i64 (wrap64 (1 + t131))] 26 (0, 0)) (by (with_reducible repeat (first | refine blk_drewN ?_ _ | refine blk_drew ?_ | refine blk_alloc ?_ _)); exact BK140.out) hb); have n4_ := Aside0.mk (below_step (by repeat (first | (with_reducible first | exact HB.out | apply below_alloc | apply pw_below_drewN | apply below_drew1 | refine below_set ?_ GE132.out | refine below_set ?_ GE135.out | refine below_set ?_ GE140.out) | exact HB.out)) hb); clear HO145; clear BK132; clear BK135; clear BK140; clear HB; have HO145 := n0_; have BK132 := n1_; have BK135 := n2_; have BK140 := n3_; have HB := n4_; clear n0_ n1_ n2_ n3_ n4_; (try clear hb); (try clear hb2); (try clear hk); (try clear hi); have hcz54_0 : w53.cell? ⟨gb132, 0, none⟩ = some (.int .i64 (wrap64 (1 + t130))) := (blk_cell BK132.out 0).trans rfl; have hcz54_1 : w53.cell? ⟨gb132, 1, none⟩ = some (.int .i64 (wrap64 (1 + t131))) := (blk_cell BK132.out 1).trans rfl; have hfz54_0 := blk_frozen BK132.out 0; have hfz54_1 := blk_frozen BK132.out 1; have hcz55_0 : w53.cell? ⟨gb135, 0, none⟩ = some (.int .i64 (wrap64 (1 + t133))) := (blk_cell BK135.out 0).trans rfl; have hcz55_1 : w53.cell? ⟨gb135, 1, none⟩ = some (.int .i64 (wrap64 (1 + t134))) := (blk_cell BK135.out 1).trans rfl; have hfz55_0 := blk_frozen BK135.out 0; have hfz55_1 := blk_frozen BK135.out 1) | ((with_reducible refine gate_dst (N := 111) rfl ?_); (try (refine gate_guard (by rfl) ?_; dsimp only)); refine Kd.R_lit k26 _ 26 ?hg (N := 111) ?hd (xs := ([(⟨(wrap64 (1 + t130)), (wrap64 (1 + t131))⟩ : S26), (⟨(wrap64 (1 + t133)), (wrap64 (1 + t134))⟩ : S26)] : List (S26))) (inner := [.int .i64 (wrap64 (1 + t130)), .int .i64 (wrap64 (1 + t131)), .int .i64 (wrap64 (1 + t133)), .int .i64 (wrap64 (1 + t134))]) (ok := fun _ => True) (okp := fun _ => True) ?hr ?hp (fun _ hk => hk) trivial (Below.refl _ _) (Nat.le_refl _) (by simp) ?_; (case hd => rfl); (case hg => rfl); (case hr => first | (go_simp; done) | (go_simp; rfl)); (case hp => exact (Reps.c2 (show Kd.M k26 _ _ _ (⟨(wrap64 (1 + t130)), (wrap64 (1 + t131))⟩ : S26) [.int .i64 (wrap64 (1 + t130)), .int .i64 (wrap64 (1 + t131))] from (k26_mkM _ _ _ (⟨(wrap64 (1 + t130)), (wrap64 (1 + t131))⟩ : S26) )) (Reps.c2 (show Kd.M k26 _ _ _ (⟨(wrap64 (1 + t133)), (wrap64 (1 + t134))⟩ : S26) [.int .i64 (wrap64 (1 + t133)), .int .i64 (wrap64 (1 + t134))] from (k26_mkM _ _ _ (⟨(wrap64 (1 + t133)), (wrap64 (1 + t134))⟩ : S26) )) (Reps.none _ _)))); intro v149 w56 ho57 hb hg_ hnew_; clear hg_ hnew_; (first | rw [← Ny148.out] at ho57 | (simp only [Int.reduceToNat] at ho57; rw [← Ny148.out] at ho57)); have n0_ := Aside0.mk (Kd.R_elder' (by (with_reducible repeat (first | apply Kd.R_alloc | apply Kd.R_drewN | apply Kd.R_drew)); exact HO145.out) (Kd.R_base ho57) hb); have n1_ := Aside0.mk (Kd.R_lower (Kd.R_newB (Kd.R_newB (Kd.R_newB (Kd.R_new' ho57 (Kd.R_lt (by (with_reducible repeat (first | apply Kd.R_alloc | apply Kd.R_drewN | apply Kd.R_drew)); exact HO145.out))) (g := gb132) (o := .cells #[.int .i64 (wrap64 (1 + t130)), .int .i64 (wrap64 (1 + t131))] 26 (0, 0)) (by (with_reducible repeat (first | refine blk_drewN ?_ _ | refine blk_drew ?_ | refine blk_alloc ?_ _)); exact BK132.out)) (g := gb135) (o := .cells #[.int .i64 (wrap64 (1 + t133)), .int .i64 (wrap64 (1 + t134))] 26 (0, 0)) (by (with_reducible repeat (first | refine blk_drewN ?_ _ | refine blk_drew ?_ | refine blk_alloc ?_ _)); exact BK135.out)) (g := gb140) (o := .cells #[.int .i64 (wrap64 (1 + t133)), .int .i64 (wrap64 (1 + t131))] 26 (0, 0)) (by (with_reducible repeat (first | refine blk_drewN ?_ _ | refine blk_drew ?_ | refine blk_alloc ?_ _)); exact BK140.out)) (below_size (by repeat (first | (with_reducible first | exact HB.out | apply below_alloc | apply pw_below_drewN | apply below_drew1 | refine below_set ?_ GE132.out | refine below_set ?_ GE135.out | refine below_set ?_ GE140.out) | exact HB.out)))); have n2_ := Aside0.mk (blk_below (g := gb132) (o := .cells #[.int .i64 (wrap64 (1 + t130)), .int .i64 (wrap64 (1 + t131))] 26 (0, 0)) (by (with_reducible repeat (first | refine blk_drewN ?_ _ | refine blk_drew ?_ | refine blk_alloc ?_ _)); exact BK132.out) hb); have n3_ := Aside0.mk (blk_below (g := gb135) (o := .cells #[.int .i64 (wrap64 (1 + t133)), .int .i64 (wrap64 (1 + t134))] 26 (0, 0)) (by (with_reducible repeat (first | refine blk_drewN ?_ _ | refine blk_drew ?_ | refine blk_alloc ?_ _)); exact BK135.out) hb); have n4_ := Aside0.mk (blk_below (g := gb140) (o := .cells #[.int .i64 (wrap64 (1 + t133)), .int .i64 (wrap64 (1 + t131))] 26 (0, 0)) (by (with_reducible repeat (first | refine blk_drewN ?_ _ | refine blk_drew ?_ | refine blk_alloc ?_ _)); exact BK140.out) hb); have n5_ := Aside0.mk (below_step (by repeat (first | (with_reducible first | exact HB.out | apply below_alloc | apply pw_below_drewN | apply below_drew1 | refine below_set ?_ GE132.out | refine below_set ?_ GE135.out | refine below_set ?_ GE140.out) | exact HB.out)) hb); clear HO145; clear BK132; clear BK135; clear BK140; clear HB; have HO145 := n0_; have HO150 := n1_; have BK132 := n2_; have BK135 := n3_; have BK140 := n4_; have HB := n5_; clear n0_ n1_ n2_ n3_ n4_ n5_; clear hb ho57; obtain ⟨Ao58, co58, eo58⟩ := Kd.R_slice HO150.out; subst eo58) | (go_at_call 9; (with_reducible refine (impl_MergeLayers.calls kj33 _ _ y148 t151 t152 _ ?side1 ?side2 A42.out).mono ?_); (case side1 => repeat (first | exact (Kd.R_reads' HO150.out).2.2 | (with_reducible refine Kd.C_alloc ?_ _) | (with_reducible refine Kd.C_drewN ?_ _) | (with_reducible refine Kd.C_drew ?_))); (case side2 => exact (Kd.R_reads' HO150.out).2.1); rintro e w59 ⟨v153, rfl, ho0, hb⟩; have n0_ := Aside0.mk (Kd.R_below (by (with_reducible repeat (first | apply Kd.R_alloc | apply Kd.R_drewN | apply Kd.R_drew)); exact HO145.out) hb); have n1_ := Aside0.mk (Kd.R_below (by (with_reducible repeat (first | apply Kd.R_alloc | apply Kd.R_drewN | apply Kd.R_drew)); exact HO150.out) hb); have n2_ := Aside0.mk (Kd.S_lower ho0 (below_size (by repeat (first | (with_reducible first | exact HB.out | apply below_alloc | apply pw_below_drewN | apply below_drew1 | refine below_set ?_ GE132.out | refine below_set ?_ GE135.out | refine below_set ?_ GE140.out) | exact HB.out)))); have n3_ := Aside0.mk (blk_below (g := gb132) (o := .cells #[.int .i64 (wrap64 (1 + t130)), .int .i64 (wrap64 (1 + t131))] 26 (0, 0)) (by (with_reducible repeat (first | refine blk_drewN ?_ _ | refine blk_drew ?_ | refine blk_alloc ?_ _)); exact BK132.out) hb); have n4_ := Aside0.mk (blk_below (g := gb135) (o := .cells #[.int .i64 (wrap64 (1 + t133)), .int .i64 (wrap64 (1 + t134))] 26 (0, 0)) (by (with_reducible repeat (first | refine blk_drewN ?_ _ | refine blk_drew ?_ | refine blk_alloc ?_ _)); exact BK135.out) hb); have n5_ := Aside0.mk (blk_below (g := gb140) (o := .cells #[.int .i64 (wrap64 (1 + t133)), .int .i64 (wrap64 (1 + t131))] 26 (0, 0)) (by (with_reducible repeat (first | refine blk_drewN ?_ _ | refine blk_drew ?_ | refine blk_alloc ?_ _)); exact BK140.out) hb); have n6_ := Aside0.mk (below_step (by repeat (first | (with_reducible first | exact HB.out | apply below_alloc | apply pw_below_drewN | apply below_drew1 | refine below_set ?_ GE132.out | refine below_set ?_ GE135.out | refine below_set ?_ GE140.out) | exact HB.out)) hb); clear HO145; clear HO150; clear BK132; clear BK135; clear BK140; clear HB; have HO145 := n0_; have HO150 := n1_; have HO154 := n2_; have BK132 := n3_; have BK135 := n4_; have BK140 := n5_; have HB := n6_; clear n0_ n1_ n2_ n3_ n4_ n5_ n6_; (try clear hb); (try clear hb2); (try clear hk); (try clear hi); (try clear ho0); have hcz60_0 : w59.cell? ⟨gb132, 0, none⟩ = some (.int .i64 (wrap64 (1 + t130))) := (blk_cell BK132.out 0).trans rfl; have hcz60_1 : w59.cell? ⟨gb132, 1, none⟩ = some (.int .i64 (wrap64 (1 + t131))) := (blk_cell BK132.out 1).trans rfl; have hfz60_0 := blk_frozen BK132.out 0; have hfz60_1 := blk_frozen BK132.out 1) | (go_at_call 10; (with_reducible refine (impl_HitTicks.calls kj33 (wrap64 (1 + t130)) (wrap64 (1 + t131)) t146 t155 t158 _ A43.out).mono ?_); rintro e w61 ⟨v156, rfl, ho0, hb⟩; have n0_ := Aside0.mk (Kd.R_below (by (with_reducible repeat (first | apply Kd.R_alloc | apply Kd.R_drewN | apply Kd.R_drew)); exact HO145.out) hb); have n1_ := Aside0.mk (Kd.R_below (by (with_reducible repeat (first | apply Kd.R_alloc | apply Kd.R_drewN | apply Kd.R_drew)); exact HO150.out) hb); have n2_ := Aside0.mk (Kd.S_elder' (by (with_reducible repeat (first | apply Kd.S_alloc | apply Kd.S_drewN | apply Kd.S_drew)); exact HO154.out) (Kd.R_base ho0) hb); have n3_ := Aside0.mk (Kd.R_lower ho0 (below_size (by repeat (first | (with_reducible first | exact HB.out | apply below_alloc | apply pw_below_drewN | apply below_drew1 | refine below_set ?_ GE132.out | refine below_set ?_ GE135.out | refine below_set ?_ GE140.out) | exact HB.out)))); have n4_ := Aside0.mk (blk_below (g := gb132) (o := .cells #[.int .i64 (wrap64 (1 + t130)), .int .i64 (wrap64 (1 + t131))] 26 (0, 0)) (by (with_reducible repeat (first | refine blk_drewN ?_ _ | refine blk_drew ?_ | refine blk_alloc ?_ _)); exact BK132.out) hb); have n5_ := Aside0.mk (blk_below (g := gb135) (o := .cells #[.int .i64 (wrap64 (1 + t133)), .int .i64 (wrap64 (1 + t134))] 26 (0, 0)) (by (with_reducible repeat (first | refine blk_drewN ?_ _ | refine blk_drew ?_ | refine blk_alloc ?_ _)); exact BK135.out) hb); have n6_ := Aside0.mk (blk_below (g := gb140) (o := .cells #[.int .i64 (wrap64 (1 + t133)), .int .i64 (wrap64 (1 + t131))] 26 (0, 0)) (by (with_reducible repeat (first | refine blk_drewN ?_ _ | refine blk_drew ?_ | refine blk_alloc ?_ _)); exact BK140.out) hb); have n7_ := Aside0.mk (below_step (by repeat (first | (with_reducible first | exact HB.out | apply below_alloc | apply pw_below_drewN | apply below_drew1 | refine below_set ?_ GE132.out | refine below_set ?_ GE135.out | refine below_set ?_ GE140.out) | exact HB.out)) hb); clear HO145; clear HO150; clear HO154; clear BK132; clear BK135; clear BK140; clear HB; have HO145 := n0_; have HO150 := n1_; have HO154 := n2_; have HO157 := n3_; have BK132 := n4_; have BK135 := n5_; have BK140 := n6_; have HB := n7_; clear n0_ n1_ n2_ n3_ n4_ n5_ n6_ n7_; (try clear hb); (try clear hb2); (try clear hk); (try clear hi); (try clear ho0)))
                repeat (go_quiet (first | ((with_reducible refine gate_dst (N := 104) rfl ?_); (try (refine gate_guard (by rfl) ?_; dsimp only)); refine Kd.R_lit k26 _ 26 ?hg (N := 104) ?hd (xs := ([(⟨(wrap64 (1 + t130)), (wrap64 (1 + t131))⟩ : S26), (⟨(wrap64 (1 + t133)), (wrap64 (1 + t134))⟩ : S26)] : List (S26))) (inner := [.int .i64 (wrap64 (1 + t130)), .int .i64 (wrap64 (1 + t131)), .int .i64 (wrap64 (1 + t133)), .int .i64 (wrap64 (1 + t134))]) (ok := fun _ => True) (okp := fun _ => True) ?hr ?hp (fun _ hk => hk) trivial (Below.refl _ _) (Nat.le_refl _) (by simp) ?_; (case hd => rfl); (case hg => rfl); (case hr => first | (go_simp; done) | (go_simp; rfl)); (case hp => exact (Reps.c2 (show Kd.M k26 _ _ _ (⟨(wrap64 (1 + t130)), (wrap64 (1 + t131))⟩ : S26) [.int .i64 (wrap64 (1 + t130)), .int .i64 (wrap64 (1 + t131))] from (k26_mkM _ _ _ (⟨(wrap64 (1 + t130)), (wrap64 (1 + t131))⟩ : S26) )) (Reps.c2 (show Kd.M k26 _ _ _ (⟨(wrap64 (1 + t133)), (wrap64 (1 + t134))⟩ : S26) [.int .i64 (wrap64 (1 + t133)), .int .i64 (wrap64 (1 + t134))] from (k26_mkM _ _ _ (⟨(wrap64 (1 + t133)), (wrap64 (1 + t134))⟩ : S26) )) (Reps.none _ _)))); intro v144 w50 ho51 hb hg_ hnew_; clear hg_ hnew_; (first | rw [← Ny143.out] at ho51 | (simp only [Int.reduceToNat] at ho51; rw [← Ny143.out] at ho51)); have n0_ := Aside0.mk (Kd.R_lower (Kd.R_newB (Kd.R_newB (Kd.R_newB ho51 (g := gb132) (o := .cells #[.int .i64 (wrap64 (1 + t130)), .int .i64 (wrap64 (1 + t131))] 26 (0, 0)) (by (with_reducible repeat (first | refine blk_drewN ?_ _ | refine blk_drew ?_ | refine blk_alloc ?_ _)); exact BK132.out)) (g := gb135) (o := .cells #[.int .i64 (wrap64 (1 + t133)), .int .i64 (wrap64 (1 + t134))] 26 (0, 0)) (by (with_reducible repeat (first | refine blk_drewN ?_ _ | refine blk_drew ?_ | refine blk_alloc ?_ _)); exact BK135.out)) (g := gb140) (o := .cells #[.int .i64 (wrap64 (1 + t133)), .int .i64 (wrap64 (1 + t131))] 26 (0, 0)) (by (with_reducible repeat (first | refine blk_drewN ?_ _ | refine blk_drew ?_ | refine blk_alloc ?_ _)); exact BK140.out)) (below_size (by repeat (first | (with_reducible first | exact HB.out | apply below_alloc | apply pw_below_drewN | apply below_drew1 | refine below_set ?_ GE132.out | refine below_set ?_ GE135.out | refine below_set ?_ GE140.out) | exact HB.out)))); have n1_ := Aside0.mk (blk_below (g := gb132) (o := .cells #[.int .i64 (wrap64 (1 + t130)), .int .i64 (wrap64 (1 + t131))] 26 (0, 0)) (by (with_reducible repeat (first | refine blk_drewN ?_ _ | refine blk_drew ?_ | refine blk_alloc ?_ _)); exact BK132.out) hb); have n2_ := Aside0.mk (blk_below (g := gb135) (o := .cells #[.int .i64 (wrap64 (1 + t133)), .int .i64 (wrap64 (1 + t134))] 26 (0, 0)) (by (with_reducible repeat (first | refine blk_drewN ?_ _ | refine blk_drew ?_ | refine blk_alloc ?_ _)); exact BK135.out) hb); have n3_ := Aside0.mk (blk_below (g := gb140) (o := .cells #[.int .i64 (wrap64 (1 + t133)), .int .i64 (wrap64 (1 + t131))] 26 (0, 0)) (by (with_reducible repeat (first | refine blk_drewN ?_ _ | refine blk_drew ?_ | refine blk_alloc ?_ _)); exact BK140.out) hb); have n4_ := Aside0.mk (below_step (by repeat (first | (with_reducible first | exact HB.out | apply below_alloc | apply pw_below_drewN | apply below_drew1 | refine below_set ?_ GE132.out | refine below_set ?_ GE135.out | refine below_set ?_ GE140.out) | exact HB.out)) hb); clear BK132; clear BK135; clear BK140; clear HB; have HO145 := n0_; have BK132 := n1_; have BK135 := n2_; have BK140 := n3_; have HB := n4_; clear n0_ n1_ n2_ n3_ n4_; clear hb ho51; obtain ⟨Ao52, co52, eo52⟩ := Kd.R_slice HO145.out; subst eo52) | (go_at_call 8; (with_reducible refine (impl_TicksFor.calls kj33 _ _ y143 t146 t147 _ ?side1 ?side2 A41.out).mono ?_); (case side1 => repeat (first | exact (Kd.R_reads' HO145.out).2.2 | (with_reducible refine Kd.C_alloc ?_ _) | (with_reducible refine Kd.C_drewN ?_ _) | (with_reducible refine Kd.C_drew ?_))); (case side2 => exact (Kd.R_reads' HO145.out).2.1); rintro e w53 ⟨rfl, hb⟩; have n0_ := Aside0.mk (Kd.R_below (by (with_reducible repeat (first | apply Kd.R_alloc | apply Kd.R_drewN | apply Kd.R_drew)); exact HO145.out) hb); have n1_ := Aside0.mk (blk_below (g := gb132) (o := .cells #[.int .i64 (wrap64 (1 + t130)), .int .i64 (wrap64 (1 + t131))] 26 (0, 0)) (by (with_reducible repeat (first | refine blk_drewN ?_ _ | refine blk_drew ?_ | refine blk_alloc ?_ _)); exact BK132.out) hb); have n2_ := Aside0.mk (blk_below (g := gb135) (o := .cells #[.int .i64 (wrap64 (1 + t133)), .int .i64 (wrap64 (1 + t134))] 26 (0, 0)) (by (with_reducible repeat (first | refine blk_drewN ?_ _ | refine blk_drew ?_ | refine blk_alloc ?_ _)); exact BK135.out) hb); have n3_ := Aside0.mk (blk_below (g := gb140) (o := .cells #[.int .i64 (wrap64 (1 + t133)), .int .i64 (wrap64 (1 + t131))] 26 (0, 0)) (by (with_reducible repeat (first | refine blk_drewN ?_ _ | refine blk_drew ?_ | refine blk_alloc ?_ _)); exact BK140.out) hb); have n4_ := Aside0.mk (below_step (by repeat (first | (with_reducible first | exact HB.out | apply below_alloc | apply pw_below_drewN | apply below_drew1 | refine below_set ?_ GE132.out | refine below_set ?_ GE135.out | refine below_set ?_ GE140.out) | exact HB.out)) hb); clear HO145; clear BK132; clear BK135; clear BK140; clear HB; have HO145 := n0_; have BK132 := n1_; have BK135 := n2_; have BK140 := n3_; have HB := n4_; clear n0_ n1_ n2_ n3_ n4_; (try clear hb); (try clear hb2); (try clear hk); (try clear hi); have hcz54_0 : w53.cell? ⟨gb132, 0, none⟩ = some (.int .i64 (wrap64 (1 + t130))) := (blk_cell BK132.out 0).trans rfl; have hcz54_1 : w53.cell? ⟨gb132, 1, none⟩ = some (.int .i64 (wrap64 (1 + t131))) := (blk_cell BK132.out 1).trans rfl; have hfz54_0 := blk_frozen BK132.out 0; have hfz54_1 := blk_frozen BK132.out 1; have hcz55_0 : w53.cell? ⟨gb135, 0, none⟩ = some (.int .i64 (wrap64 (1 + t133))) := (blk_cell BK135.out 0).trans rfl; have hcz55_1 : w53.cell? ⟨gb135, 1, none⟩ = some (.int .i64 (wrap64 (1 + t134))) := (blk_cell BK135.out 1).trans rfl; have hfz55_0 := blk_frozen BK135.out 0; have hfz55_1 := blk_frozen BK135.out 1) | ((with_reducible refine gate_dst (N := 111) rfl ?_); (try (refine gate_guard (by rfl) ?_; dsimp only)); refine Kd.R_lit k26 _ 26 ?hg (N := 111) ?hd (xs := ([(⟨(wrap64 (1 + t130)), (wrap64 (1 + t131))⟩ : S26), (⟨(wrap64 (1 + t133)), (wrap64 (1 + t134))⟩ : S26)] : List (S26))) (inner := [.int .i64 (wrap64 (1 + t130)), .int .i64 (wrap64 (1 + t131)), .int .i64 (wrap64 (1 + t133)), .int .i64 (wrap64 (1 + t134))]) (ok := fun _ => True) (okp := fun _ => True) ?hr ?hp (fun _ hk => hk) trivial (Below.refl _ _) (Nat.le_refl _) (by simp) ?_; (case hd => rfl); (case hg => rfl); (case hr => first | (go_simp; done) | (go_simp; rfl)); (case hp => exact (Reps.c2 (show Kd.M k26 _ _ _ (⟨(wrap64 (1 + t130)), (wrap64 (1 + t131))⟩ : S26) [.int .i64 (wrap64 (1 + t130)), .int .i64 (wrap64 (1 + t131))] from (k26_mkM _ _ _ (⟨(wrap64 (1 + t130)), (wrap64 (1 + t131))⟩ : S26) )) (Reps.c2 (show Kd.M k26 _ _ _ (⟨(wrap64 (1 + t133)), (wrap64 (1 + t134))⟩ : S26) [.int .i64 (wrap64 (1 + t133)), .int .i64 (wrap64 (1 + t134))] from (k26_mkM _ _ _ (⟨(wrap64 (1 + t133)), (wrap64 (1 + t134))⟩ : S26) )) (Reps.none _ _)))); intro v149 w56 ho57 hb hg_ hnew_; clear hg_ hnew_; (first | rw [← Ny148.out] at ho57 | (simp only [Int.reduceToNat] at ho57; rw [← Ny148.out] at ho57)); have n0_ := Aside0.mk (Kd.R_elder' (by (with_reducible repeat (first | apply Kd.R_alloc | apply Kd.R_drewN | apply Kd.R_drew)); exact HO145.out) (Kd.R_base ho57) hb); have n1_ := Aside0.mk (Kd.R_lower (Kd.R_newB (Kd.R_newB (Kd.R_newB (Kd.R_new' ho57 (Kd.R_lt (by (with_reducible repeat (first | apply Kd.R_alloc | apply Kd.R_drewN | apply Kd.R_drew)); exact HO145.out))) (g := gb132) (o := .cells #[.int .i64 (wrap64 (1 + t130)), .int .i64 (wrap64 (1 + t131))] 26 (0, 0)) (by (with_reducible repeat (first | refine blk_drewN ?_ _ | refine blk_drew ?_ | refine blk_alloc ?_ _)); exact BK132.out)) (g := gb135) (o := .cells #[.int .i64 (wrap64 (1 + t133)), .int .i64 (wrap64 (1 + t134))] 26 (0, 0)) (by (with_reducible repeat (first | refine blk_drewN ?_ _ | refine blk_drew ?_ | refine blk_alloc ?_ _)); exact BK135.out)) (g := gb140) (o := .cells #[.int .i64 (wrap64 (1 + t133)), .int .i64 (wrap64 (1 + t131))] 26 (0, 0)) (by (with_reducible repeat (first | refine blk_drewN ?_ _ | refine blk_drew ?_ | refine blk_alloc ?_ _)); exact BK140.out)) (below_size (by repeat (first | (with_reducible first | exact HB.out | apply below_alloc | apply pw_below_drewN | apply below_drew1 | refine below_set ?_ GE132.out | refine below_set ?_ GE135.out | refine below_set ?_ GE140.out) | exact HB.out)))); have n2_ := Aside0.mk (blk_below (g := gb132) (o := .cells #[.int .i64 (wrap64 (1 + t130)), .int .i64 (wrap64 (1 + t131))] 26 (0, 0)) (by (with_reducible repeat (first | refine blk_drewN ?_ _ | refine blk_drew ?_ | refine blk_alloc ?_ _)); exact BK132.out) hb); have n3_ := Aside0.mk (blk_below (g := gb135) (o := .cells #[.int .i64 (wrap64 (1 + t133)), .int .i64 (wrap64 (1 + t134))] 26 (0, 0)) (by (with_reducible repeat (first | refine blk_drewN ?_ _ | refine blk_drew ?_ | refine blk_alloc ?_ _)); exact BK135.out) hb); have n4_ := Aside0.mk (blk_below (g := gb140) (o := .cells #[.int .i64 (wrap64 (1 + t133)), .int .i64 (wrap64 (1 + t131))] 26 (0, 0)) (by (with_reducible repeat (first | refine blk_drewN ?_ _ | refine blk_drew ?_ | refine blk_alloc ?_ _)); exact BK140.out) hb); have n5_ := Aside0.mk (below_step (by repeat (first | (with_reducible first | exact HB.out | apply below_alloc | apply pw_below_drewN | apply below_drew1 | refine below_set ?_ GE132.out | refine below_set ?_ GE135.out | refine below_set ?_ GE140.out) | exact HB.out)) hb); clear HO145; clear BK132; clear BK135; clear BK140; clear HB; have HO145 := n0_; have HO150 := n1_; have BK132 := n2_; have BK135 := n3_; have BK140 := n4_; have HB := n5_; clear n0_ n1_ n2_ n3_ n4_ n5_; clear hb ho57; obtain ⟨Ao58, co58, eo58⟩ := Kd.R_slice HO150.out; subst eo58) | (go_at_call 9; (with_reducible refine (impl_MergeLayers.calls kj33 _ _ y148 t151 t152 _ ?side1 ?side2 A42.out).mono ?_); (case side1 => repeat (first | exact (Kd.R_reads' HO150.out).2.2 | (with_reducible refine Kd.C_alloc ?_ _) | (with_reducible refine Kd.C_drewN ?_ _) | (with_reducible refine Kd.C_drew ?_))); (case side2 => exact (Kd.R_reads' HO150.out).2.1); rintro e w59 ⟨v153, rfl, ho0, hb⟩; have n0_ := Aside0.mk (Kd.R_below (by (with_reducible repeat (first | apply Kd.R_alloc | apply Kd.R_drewN | apply Kd.R_drew)); exact HO145.out) hb); have n1_ := Aside0.mk (Kd.R_below (by (with_reducible repeat (first | apply Kd.R_alloc | apply Kd.R_drewN | apply Kd.R_drew)); exact HO150.out) hb); have n2_ := Aside0.mk (Kd.S_lower ho0 (below_size (by repeat (first | (with_reducible first | exact HB.out | apply below_alloc | apply pw_below_drewN | apply below_drew1 | refine below_set ?_ GE132.out | refine below_set ?_ GE135.out | refine below_set ?_ GE140.out) | exact HB.out)))); have n3_ := Aside0.mk (blk_below (g := gb132) (o := .cells #[.int .i64 (wrap64 (1 + t130)), .int .i64 (wrap64 (1 + t131))] 26 (0, 0)) (by (with_reducible repeat (first | refine blk_drewN ?_ _ | refine blk_drew ?_ | refine blk_alloc ?_ _)); exact BK132.out) hb); have n4_ := Aside0.mk (blk_below (g := gb135) (o := .cells #[.int .i64 (wrap64 (1 + t133)), .int .i64 (wrap64 (1 + t134))] 26 (0, 0)) (by (with_reducible repeat (first | refine blk_drewN ?_ _ | refine blk_drew ?_ | refine blk_alloc ?_ _)); exact BK135.out) hb); have n5_ := Aside0.mk (blk_below (g := gb140) (o := .cells #[.int .i64 (wrap64 (1 + t133)), .int .i64 (wrap64 (1 + t131))] 26 (0, 0)) (by (with_reducible repeat (first | refine blk_drewN ?_ _ | refine blk_drew ?_ | refine blk_alloc ?_ _)); exact BK140.out) hb); have n6_ := Aside0.mk (below_step (by repeat (first | (with_reducible first | exact HB.out | apply below_alloc | apply pw_below_drewN | apply below_drew1 | refine below_set ?_ GE132.out | refine below_set ?_ GE135.out | refine below_set ?_ GE140.out) | exact HB.out)) hb); clear HO145; clear HO150; clear BK132; clear BK135; clear BK140; clear HB; have HO145 := n0_; have HO150 := n1_; have HO154 := n2_; have BK132 := n3_; have BK135 := n4_; have BK140 := n5_; have HB := n6_; clear n0_ n1_ n2_ n3_ n4_ n5_ n6_; (try clear hb); (try clear hb2); (try clear hk); (try clear hi); (try clear ho0); have hcz60_0 : w59.cell? ⟨gb132, 0, none⟩ = some (.int .i64 (wrap64 (1 + t130))) := (blk_cell BK132.out 0).trans rfl; have hcz60_1 : w59.cell? ⟨gb132, 1, none⟩ = some (.int .i64 (wrap64 (1 + t131))) := (blk_cell BK132.out 1).trans rfl; have hfz60_0 := blk_frozen BK132.out 0; have hfz60_1 := blk_frozen BK132.out 1) | (go_at_call 10; (with_reducible refine (impl_HitTicks.calls kj33 (wrap64 (1 + t130)) (wrap64 (1 + t131)) t146 t155 t158 _ A43.out).mono ?_); rintro e w61 ⟨v156, rfl, ho0, hb⟩; have n0_ := Aside0.mk (Kd.R_below (by (with_reducible repeat (first | apply Kd.R_alloc | apply Kd.R_drewN | apply Kd.R_drew)); exact HO145.out) hb); have n1_ := Aside0.mk (Kd.R_below (by (with_reducible repeat (first | apply Kd.R_alloc | apply Kd.R_drewN | apply Kd.R_drew)); exact HO150.out) hb); have n2_ := Aside0.mk (Kd.S_elder' (by (with_reducible repeat (first | apply Kd.S_alloc | apply Kd.S_drewN | apply Kd.S_drew)); exact HO154.out) (Kd.R_base ho0) hb); have n3_ := Aside0.mk (Kd.R_lower ho0 (below_size (by repeat (first | (with_reducible first | exact HB.out | apply below_alloc | apply pw_below_drewN | apply below_drew1 | refine below_set ?_ GE132.out | refine below_set ?_ GE135.out | refine below_set ?_ GE140.out) | exact HB.out)))); have n4_ := Aside0.mk (blk_below (g := gb132) (o := .cells #[.int .i64 (wrap64 (1 + t130)), .int .i64 (wrap64 (1 + t131))] 26 (0, 0)) (by (with_reducible repeat (first | refine blk_drewN ?_ _ | refine blk_drew ?_ | refine blk_alloc ?_ _)); exact BK132.out) hb); have n5_ := Aside0.mk (blk_below (g := gb135) (o := .cells #[.int .i64 (wrap64 (1 + t133)), .int .i64 (wrap64 (1 + t134))] 26 (0, 0)) (by (with_reducible repeat (first | refine blk_drewN ?_ _ | refine blk_drew ?_ | refine blk_alloc ?_ _)); exact BK135.out) hb); have n6_ := Aside0.mk (blk_below (g := gb140) (o := .cells #[.int .i64 (wrap64 (1 + t133)), .int .i64 (wrap64 (1 + t131))] 26 (0, 0)) (by (with_reducible repeat (first | refine blk_drewN ?_ _ | refine blk_drew ?_ | refine blk_alloc ?_ _)); exact BK140.out) hb); have n7_ := Aside0.mk (below_step (by repeat (first | (with_reducible first | exact HB.out | apply below_alloc | apply pw_below_drewN | apply below_drew1 | refine below_set ?_ GE132.out | refine below_set ?_ GE135.out | refine below_set ?_ GE140.out) | exact HB.out)) hb); clear HO145; clear HO150; clear HO154; clear BK132; clear BK135; clear BK140; clear HB; have HO145 := n0_; have HO150 := n1_; have HO154 := n2_; have HO157 := n3_; have BK132 := n4_; have BK135 := n5_; have BK140 := n6_; have HB := n7_; clear n0_ n1_ n2_ n3_ n4_ n5_ n6_ n7_; (try clear hb); (try clear hb2); (try clear hk); (try clear hi); (try clear ho0))); go_upto_region 20 with (first | ((with_reducible refine gate_dst (N := 104) rfl ?_); (try (refine gate_guard (by rfl) ?_; dsimp only)); refine Kd.R_lit k26 _ 26 ?hg (N := 104) ?hd (xs := ([(⟨(wrap64 (1 + t130)), (wrap64 (1 + t131))⟩ : S26), (⟨(wrap64 (1 + t133)), (wrap64 (1 + t134))⟩ : S26)] : List (S26))) (inner := [.int .i64 (wrap64 (1 + t130)), .int .i64 (wrap64 (1 + t131)), .int .i64 (wrap64 (1 + t133)), .int .i64 (wrap64 (1 + t134))]) (ok := fun _ => True) (okp := fun _ => True) ?hr ?hp (fun _ hk => hk) trivial (Below.refl _ _) (Nat.le_refl _) (by simp) ?_; (case hd => rfl); (case hg => rfl); (case hr => first | (go_simp; done) | (go_simp; rfl)); (case hp => exact (Reps.c2 (show Kd.M k26 _ _ _ (⟨(wrap64 (1 + t130)), (wrap64 (1 + t131))⟩ : S26) [.int .i64 (wrap64 (1 + t130)), .int .i64 (wrap64 (1 + t131))] from (k26_mkM _ _ _ (⟨(wrap64 (1 + t130)), (wrap64 (1 + t131))⟩ : S26) )) (Reps.c2 (show Kd.M k26 _ _ _ (⟨(wrap64 (1 + t133)), (wrap64 (1 + t134))⟩ : S26) [.int .i64 (wrap64 (1 + t133)), .int .i64 (wrap64 (1 + t134))] from (k26_mkM _ _ _ (⟨(wrap64 (1 + t133)), (wrap64 (1 + t134))⟩ : S26) )) (Reps.none _ _)))); intro v144 w50 ho51 hb hg_ hnew_; clear hg_ hnew_; (first | rw [← Ny143.out] at ho51 | (simp only [Int.reduceToNat] at ho51; rw [← Ny143.out] at ho51)); have n0_ := Aside0.mk (Kd.R_lower (Kd.R_newB (Kd.R_newB (Kd.R_newB ho51 (g := gb132) (o := .cells #[.int .i64 (wrap64 (1 + t130)), .int .i64 (wrap64 (1 + t131))] 26 (0, 0)) (by (with_reducible repeat (first | refine blk_drewN ?_ _ | refine blk_drew ?_ | refine blk_alloc ?_ _)); exact BK132.out)) (g := gb135) (o := .cells #[.int .i64 (wrap64 (1 + t133)), .int .i64 (wrap64 (1 + t134))] 26 (0, 0)) (by (with_reducible repeat (first | refine blk_drewN ?_ _ | refine blk_drew ?_ | refine blk_alloc ?_ _)); exact BK135.out)) (g := gb140) (o := .cells #[.int .i64 (wrap64 (1 + t133)), .int .i64 (wrap64 (1 + t131))] 26 (0, 0)) (by (with_reducible repeat (first | refine blk_drewN ?_ _ | refine blk_drew ?_ | refine blk_alloc ?_ _)); exact BK140.out)) (below_size (by repeat (first | (with_reducible first | exact HB.out | apply below_alloc | apply pw_below_drewN | apply below_drew1 | refine below_set ?_ GE132.out | refine below_set ?_ GE135.out | refine below_set ?_ GE140.out) | exact HB.out)))); have n1_ := Aside0.mk (blk_below (g := gb132) (o := .cells #[.int .i64 (wrap64 (1 + t130)), .int .i64 (wrap64 (1 + t131))] 26 (0, 0)) (by (with_reducible repeat (first | refine blk_drewN ?_ _ | refine blk_drew ?_ | refine blk_alloc ?_ _)); exact BK132.out) hb); have n2_ := Aside0.mk (blk_below (g := gb135) (o := .cells #[.int .i64 (wrap64 (1 + t133)), .int .i64 (wrap64 (1 + t134))] 26 (0, 0)) (by (with_reducible repeat (first | refine blk_drewN ?_ _ | refine blk_drew ?_ | refine blk_alloc ?_ _)); exact BK135.out) hb); have n3_ := Aside0.mk (blk_below (g := gb140) (o := .cells #[.int .i64 (wrap64 (1 + t133)), .int .i64 (wrap64 (1 + t131))] 26 (0, 0)) (by (with_reducible repeat (first | refine blk_drewN ?_ _ | refine blk_drew ?_ | refine blk_alloc ?_ _)); exact BK140.out) hb); have n4_ := Aside0.mk (below_step (by repeat (first | (with_reducible first | exact HB.out | apply below_alloc | apply pw_below_drewN | apply below_drew1 | refine below_set ?_ GE132.out | refine below_set ?_ GE135.out | refine below_set ?_ GE140.out) | exact HB.out)) hb); clear BK132; clear BK135; clear BK140; clear HB; have HO145 := n0_; have BK132 := n1_; have BK135 := n2_; have BK140 := n3_; have HB := n4_; clear n0_ n1_ n2_ n3_ n4_; clear hb ho51; obtain ⟨Ao52, co52, eo52⟩ := Kd.R_slice HO145.out; subst eo52) | (go_at_call 8; (with_reducible refine (impl_TicksFor.calls kj33 _ _ y143 t146 t147 _ ?side1 ?side2 A41.out).mono ?_); (case side1 => repeat (first | exact (Kd.R_reads' HO145.out).2.2 | (with_reducible refine Kd.C_alloc ?_ _) | (with_reducible refine Kd.C_drewN ?_ _) | (with_reducible refine Kd.C_drew ?_))); (case side2 => exact (Kd.R_reads' HO145.out).2.1); rintro e w53 ⟨rfl, hb⟩; have n0_ := Aside0.mk (Kd.R_below (by (with_reducible repeat (first | apply Kd.R_alloc | apply Kd.R_drewN | apply Kd.R_drew)); exact HO145.out) hb); have n1_ := Aside0.mk (blk_below (g := gb132) (o := .cells #[.int .i64 (wrap64 (1 + t130)), .int .i64 (wrap64 (1 + t131))] 26 (0, 0)) (by (with_reducible repeat (first | refine blk_drewN ?_ _ | refine blk_drew ?_ | refine blk_alloc ?_ _)); exact BK132.out) hb); have n2_ := Aside0.mk (blk_below (g := gb135) (o := .cells #[.int .i64 (wrap64 (1 + t133)), .int .i64 (wrap64 (1 + t134))] 26 (0, 0)) (by (with_reducible repeat (first | refine blk_drewN ?_ _ | refine blk_drew ?_ | refine blk_alloc ?_ _)); exact BK135.out) hb); have n3_ := Aside0.mk (blk_below (g := gb140) (o := .cells #[.int .i64 (wrap64 (1 + t133)), .int .i64 (wrap64 (1 + t131))] 26 (0, 0)) (by (with_reducible repeat (first | refine blk_drewN ?_ _ | refine blk_drew ?_ | refine blk_alloc ?_ _)); exact BK140.out) hb); have n4_ := Aside0.mk (below_step (by repeat (first | (with_reducible first | exact HB.out | apply below_alloc | apply pw_below_drewN | apply below_drew1 | refine below_set ?_ GE132.out | refine below_set ?_ GE135.out | refine below_set ?_ GE140.out) | exact HB.out)) hb); clear HO145; clear BK132; clear BK135; clear BK140; clear HB; have HO145 := n0_; have BK132 := n1_; have BK135 := n2_; have BK140 := n3_; have HB := n4_; clear n0_ n1_ n2_ n3_ n4_; (try clear hb); (try clear hb2); (try clear hk); (try clear hi); have hcz54_0 : w53.cell? ⟨gb132, 0, none⟩ = some (.int .i64 (wrap64 (1 + t130))) := (blk_cell BK132.out 0).trans rfl; have hcz54_1 : w53.cell? ⟨gb132, 1, none⟩ = some (.int .i64 (wrap64 (1 + t131))) := (blk_cell BK132.out 1).trans rfl; have hfz54_0 := blk_frozen BK132.out 0; have hfz54_1 := blk_frozen BK132.out 1; have hcz55_0 : w53.cell? ⟨gb135, 0, none⟩ = some (.int .i64 (wrap64 (1 + t133))) := (blk_cell BK135.out 0).trans rfl; have hcz55_1 : w53.cell? ⟨gb135, 1, none⟩ = some (.int .i64 (wrap64 (1 + t134))) := (blk_cell BK135.out 1).trans rfl; have hfz55_0 := blk_frozen BK135.out 0; have hfz55_1 := blk_frozen BK135.out 1) | ((with_reducible refine gate_dst (N := 111) rfl ?_); (try (refine gate_guard (by rfl) ?_; dsimp only)); refine Kd.R_lit k26 _ 26 ?hg (N := 111) ?hd (xs := ([(⟨(wrap64 (1 + t130)), (wrap64 (1 + t131))⟩ : S26), (⟨(wrap64 (1 + t133)), (wrap64 (1 + t134))⟩ : S26)] : List (S26))) (inner := [.int .i64 (wrap64 (1 + t130)), .int .i64 (wrap64 (1 + t131)), .int .i64 (wrap64 (1 + t133)), .int .i64 (wrap64 (1 + t134))]) (ok := fun _ => True) (okp := fun _ => True) ?hr ?hp (fun _ hk => hk) trivial (Below.refl _ _) (Nat.le_refl _) (by simp) ?_; (case hd => rfl); (case hg => rfl); (case hr => first | (go_simp; done) | (go_simp; rfl)); (case hp => exact (Reps.c2 (show Kd.M k26 _ _ _ (⟨(wrap64 (1 + t130)), (wrap64 (1 + t131))⟩ : S26) [.int .i64 (wrap64 (1 + t130)), .int .i64 (wrap64 (1 + t131))] from (k26_mkM _ _ _ (⟨(wrap64 (1 + t130)), (wrap64 (1 + t131))⟩ : S26) )) (Reps.c2 (show Kd.M k26 _ _ _ (⟨(wrap64 (1 + t133)), (wrap64 (1 + t134))⟩ : S26) [.int .i64 (wrap64 (1 + t133)), .int .i64 (wrap64 (1 + t134))] from (k26_mkM _ _ _ (⟨(wrap64 (1 + t133)), (wrap64 (1 + t134))⟩ : S26) )) (Reps.none _ _)))); intro v149 w56 ho57 hb hg_ hnew_; clear hg_ hnew_; (first | rw [← Ny148.out] at ho57 | (simp only [Int.reduceToNat] at ho57; rw [← Ny148.out] at ho57)); have n0_ := Aside0.mk (Kd.R_elder' (by (with_reducible repeat (first | apply Kd.R_alloc | apply Kd.R_drewN | apply Kd.R_drew)); exact HO145.out) (Kd.R_base ho57) hb); have n1_ := Aside0.mk (Kd.R_lower (Kd.R_newB (Kd.R_newB (Kd.R_newB (Kd.R_new' ho57 (Kd.R_lt (by (with_reducible repeat (first | apply Kd.R_alloc | apply Kd.R_drewN | apply Kd.R_drew)); exact HO145.out))) (g := gb132) (o := .cells #[.int .i64 (wrap64 (1 + t130)), .int .i64 (wrap64 (1 + t131))] 26 (0, 0)) (by (with_reducible repeat (first | refine blk_drewN ?_ _ | refine blk_drew ?_ | refine blk_alloc ?_ _)); exact BK132.out)) (g := gb135) (o := .cells #[.int .i64 (wrap64 (1 + t133)), .int .i64 (wrap64 (1 + t134))] 26 (0, 0)) (by (with_reducible repeat (first | refine blk_drewN ?_ _ | refine blk_drew ?_ | refine blk_alloc ?_ _)); exact BK135.out)) (g := gb140) (o := .cells #[.int .i64 (wrap64 (1 + t133)), .int .i64 (wrap64 (1 + t131))] 26 (0, 0)) (by (with_reducible repeat (first | refine blk_drewN ?_ _ | refine blk_drew ?_ | refine blk_alloc ?_ _)); exact BK140.out)) (below_size (by repeat (first | (with_reducible first | exact HB.out | apply below_alloc | apply pw_below_drewN | apply below_drew1 | refine below_set ?_ GE132.out | refine below_set ?_ GE135.out | refine below_set ?_ GE140.out) | exact HB.out)))); have n2_ := Aside0.mk (blk_below (g := gb132) (o := .cells #[.int .i64 (wrap64 (1 + t130)), .int .i64 (wrap64 (1 + t131))] 26 (0, 0)) (by (with_reducible repeat (first | refine blk_drewN ?_ _ | refine blk_drew ?_ | refine blk_alloc ?_ _)); exact BK132.out) hb); have n3_ := Aside0.mk (blk_below (g := gb135) (o := .cells #[.int .i64 (wrap64 (1 + t133)), .int .i64 (wrap64 (1 + t134))] 26 (0, 0)) (by (with_reducible repeat (first | refine blk_drewN ?_ _ | refine blk_drew ?_ | refine blk_alloc ?_ _)); exact BK135.out) hb); have n4_ := Aside0.mk (blk_below (g := gb140) (o := .cells #[.int .i64 (wrap64 (1 + t133)), .int .i64 (wrap64 (1 + t131))] 26 (0, 0)) (by (with_reducible repeat (first | refine blk_drewN ?_ _ | refine blk_drew ?_ | refine blk_alloc ?_ _)); exact BK140.out) hb); have n5_ := Aside0.mk (below_step (by repeat (first | (with_reducible first | exact HB.out | apply below_alloc | apply pw_below_drewN | apply below_drew1 | refine below_set ?_ GE132.out | refine below_set ?_ GE135.out | refine below_set ?_ GE140.out) | exact HB.out)) hb); clear HO145; clear BK132; clear BK135; clear BK140; clear HB; have HO145 := n0_; have HO150 := n1_; have BK132 := n2_; have BK135 := n3_; have BK140 := n4_; have HB := n5_; clear n0_ n1_ n2_ n3_ n4_ n5_; clear hb ho57; obtain ⟨Ao58, co58, eo58⟩ := Kd.R_slice HO150.out; subst eo58) | (go_at_call 9; (with_reducible refine (impl_MergeLayers.calls kj33 _ _ y148 t151 t152 _ ?side1 ?side2 A42.out).mono ?_); (case side1 => repeat (first | exact (Kd.R_reads' HO150.out).2.2 | (with_reducible refine Kd.C_alloc ?_ _) | (with_reducible refine Kd.C_drewN ?_ _) | (with_reducible refine Kd.C_drew ?_))); (case side2 => exact (Kd.R_reads' HO150.out).2.1); rintro e w59 ⟨v153, rfl, ho0, hb⟩; have n0_ := Aside0.mk (Kd.R_below (by (with_reducible repeat (first | apply Kd.R_alloc | apply Kd.R_drewN | apply Kd.R_drew)); exact HO145.out) hb); have n1_ := Aside0.mk (Kd.R_below (by (with_reducible repeat (first | apply Kd.R_alloc | apply Kd.R_drewN | apply Kd.R_drew)); exact HO150.out) hb); have n2_ := Aside0.mk (Kd.S_lower ho0 (below_size (by repeat (first | (with_reducible first | exact HB.out | apply below_alloc | apply pw_below_drewN | apply below_drew1 | refine below_set ?_ GE132.out | refine below_set ?_ GE135.out | refine below_set ?_ GE140.out) | exact HB.out)))); have n3_ := Aside0.mk (blk_below (g := gb132) (o := .cells #[.int .i64 (wrap64 (1 + t130)), .int .i64 (wrap64 (1 + t131))] 26 (0, 0)) (by (with_reducible repeat (first | refine blk_drewN ?_ _ | refine blk_drew ?_ | refine blk_alloc ?_ _)); exact BK132.out) hb); have n4_ := Aside0.mk (blk_below (g := gb135) (o := .cells #[.int .i64 (wrap64 (1 + t133)), .int .i64 (wrap64 (1 + t134))] 26 (0, 0)) (by (with_reducible repeat (first | refine blk_drewN ?_ _ | refine blk_drew ?_ | refine blk_alloc ?_ _)); exact BK135.out) hb); have n5_ := Aside0.mk (blk_below (g := gb140) (o := .cells #[.int .i64 (wrap64 (1 + t133)), .int .i64 (wrap64 (1 + t131))] 26 (0, 0)) (by (with_reducible repeat (first | refine blk_drewN ?_ _ | refine blk_drew ?_ | refine blk_alloc ?_ _)); exact BK140.out) hb); have n6_ := Aside0.mk (below_step (by repeat (first | (with_reducible first | exact HB.out | apply below_alloc | apply pw_below_drewN | apply below_drew1 | refine below_set ?_ GE132.out | refine below_set ?_ GE135.out | refine below_set ?_ GE140.out) | exact HB.out)) hb); clear HO145; clear HO150; clear BK132; clear BK135; clear BK140; clear HB; have HO145 := n0_; have HO150 := n1_; have HO154 := n2_; have BK132 := n3_; have BK135 := n4_; have BK140 := n5_; have HB := n6_; clear n0_ n1_ n2_ n3_ n4_ n5_ n6_; (try clear hb); (try clear hb2); (try clear hk); (try clear hi); (try clear ho0); have hcz60_0 : w59.cell? ⟨gb132, 0, none⟩ = some (.int .i64 (wrap64 (1 + t130))) := (blk_cell BK132.out 0).trans rfl; have hcz60_1 : w59.cell? ⟨gb132, 1, none⟩ = some (.int .i64 (wrap64 (1 + t131))) := (blk_cell BK132.out 1).trans rfl; have hfz60_0 := blk_frozen BK132.out 0; have hfz60_1 := blk_frozen BK132.out 1) | (go_at_call 10; (with_reducible refine (impl_HitTicks.calls kj33 (wrap64 (1 + t130)) (wrap64 (1 + t131)) t146 t155 t158 _ A43.out).mono ?_); rintro e w61 ⟨v156, rfl, ho0, hb⟩; have n0_ := Aside0.mk (Kd.R_below (by (with_reducible repeat (first | apply Kd.R_alloc | apply Kd.R_drewN | apply Kd.R_drew)); exact HO145.out) hb); have n1_ := Aside0.mk (Kd.R_below (by (with_reducible repeat (first | apply Kd.R_alloc | apply Kd.R_drewN | apply Kd.R_drew)); exact HO150.out) hb); have n2_ := Aside0.mk (Kd.S_elder' (by (with_reducible repeat (first | apply Kd.S_alloc | apply Kd.S_drewN | apply Kd.S_drew)); exact HO154.out) (Kd.R_base ho0) hb); have n3_ := Aside0.mk (Kd.R_lower ho0 (below_size (by repeat (first | (with_reducible first | exact HB.out | apply below_alloc | apply pw_below_drewN | apply below_drew1 | refine below_set ?_ GE132.out | refine below_set ?_ GE135.out | refine below_set ?_ GE140.out) | exact HB.out)))); have n4_ := Aside0.mk (blk_below (g := gb132) (o := .cells #[.int .i64 (wrap64 (1 + t130)), .int .i64 (wrap64 (1 + t131))] 26 (0, 0)) (by (with_reducible repeat (first | refine blk_drewN ?_ _ | refine blk_drew ?_ | refine blk_alloc ?_ _)); exact BK132.out) hb); have n5_ := Aside0.mk (blk_below (g := gb135) (o := .cells #[.int .i64 (wrap64 (1 + t133)), .int .i64 (wrap64 (1 + t134))] 26 (0, 0)) (by (with_reducible repeat (first | refine blk_drewN ?_ _ | refine blk_drew ?_ | refine blk_alloc ?_ _)); exact BK135.out) hb); have n6_ := Aside0.mk (blk_below (g := gb140) (o := .cells #[.int .i64 (wrap64 (1 + t133)), .int .i64 (wrap64 (1 + t131))] 26 (0, 0)) (by (with_reducible repeat (first | refine blk_drewN ?_ _ | refine blk_drew ?_ | refine blk_alloc ?_ _)); exact BK140.out) hb); have n7_ := Aside0.mk (below_step (by repeat (first | (with_reducible first | exact HB.out | apply below_alloc | apply pw_below_drewN | apply below_drew1 | refine below_set ?_ GE132.out | refine below_set ?_ GE135.out | refine below_set ?_ GE140.out) | exact HB.out)) hb); clear HO145; clear HO150; clear HO154; clear BK132; clear BK135; clear BK140; clear HB; have HO145 := n0_; have HO150 := n1_; have HO154 := n2_; have HO157 := n3_; have BK132 := n4_; have BK135 := n5_; have BK140 := n6_; have HB := n7_; clear n0_ n1_ n2_ n3_ n4_ n5_ n6_ n7_; (try clear hb); (try clear hb2); (try clear hk); (try clear hi); (try clear ho0))))
                (try simp only [Act.put, List.setIfInBounds_toArray, List.set_cons_zero, List.set_cons_succ])
                go_cut [149] (fun v149 wc => ∃ (kq : Nat) (x149_43 : Bool), v149 = .bool x149_43 ∧ Aside0 (laws_FnSpeeds.j2 kq t146 t151 t155 x149_43 (wrap64 (1 + t130)) (wrap64 (1 + t131)) (wrap64 (1 + t133)) (wrap64 (1 + t134)) = some r) ∧ Aside0 (kq ≤ kj33) ∧ Aside0 (Kd.S (Kd.slice 2 (Kd.int .i64)) 34 wc w.heap.size (fun k_ => some k_ ≠ (v156 : Value).ownBlock) v153 t151) ∧ Aside0 (Kd.R (Kd.int .i64) 2 wc w.heap.size (fun _ => True) v156 t155) ∧ Aside0 (wc.heap[gb132]? = some (.cells #[.int .i64 (wrap64 (1 + t130)), .int .i64 (wrap64 (1 + t131))] 26 (0, 0))) ∧ Aside0 (wc.heap[gb135]? = some (.cells #[.int .i64 (wrap64 (1 + t133)), .int .i64 (wrap64 (1 + t134))] 26 (0, 0))) ∧ Aside0 (wc.heap[gb140]? = some (.cells #[.int .i64 (wrap64 (1 + t133)), .int .i64 (wrap64 (1 + t131))] 26 (0, 0))) ∧ Aside0 (Below w.heap.size w wc))
                case first => as_aux_lemma =>
                  have H := HC44.out
                  clear HC44
                  by_cases c62 : t147 = 0
                  · rw [if_pos c62] at H
                    have c62b0 : (t147 == 0) = true := beq_iff_eq.mpr c62
                    have c62b1 : (t147 != 0) = false := bne_eq_false_iff_eq.mpr c62
                    clear c62
                    (first | rw [c62b0] | (simp only [i64_w, i32_w]; rw [c62b0]) | skip)
                    by_cases c63 : t152 = 0
                    · rw [if_pos c63] at H
                      have c63b0 : (t152 == 0) = true := beq_iff_eq.mpr c63
                      have c63b1 : (t152 != 0) = false := bne_eq_false_iff_eq.mpr c63
                      clear c63
                      by_cases c64 : t158 = 0
                      · rw [if_pos c64] at H
                        have c64b0 : (t158 == 0) = true := beq_iff_eq.mpr c64
                        have c64b1 : (t158 != 0) = false := bne_eq_false_iff_eq.mpr c64
                        clear c64
                        by_cases c65 : (t155.length : Int) = (wrap64 (1 + t130))
                        · rw [if_pos c65] at H
                          have c65b0 : ((t155.length : Int) == (wrap64 (1 + t130))) = true := beq_iff_eq.mpr c65
                          have c65b1 : ((t155.length : Int) != (wrap64 (1 + t130))) = false := bne_eq_false_iff_eq.mpr c65
                          clear c65
                          have H' := Aside0.mk H
                          clear H
                          obtain ⟨Ao66, co66, eo66⟩ := Kd.R_slice HO157.out
                          subst eo66
                          have hnb67 := NB132_135.out
                          have hnc67 := NB135_132.out
                          have hnb68 := NB132_140.out
                          have hnc68 := NB140_132.out
                          have hcz69_0 : w61.cell? ⟨gb132, 0, none⟩ = some (.int .i64 (wrap64 (1 + t130))) := (blk_cell BK132.out 0).trans rfl
                          have hcz69_1 : w61.cell? ⟨gb132, 1, none⟩ = some (.int .i64 (wrap64 (1 + t131))) := (blk_cell BK132.out 1).trans rfl
                          have hfz69_0 := blk_frozen BK132.out 0
                          have hfz69_1 := blk_frozen BK132.out 1
                          obtain ⟨Ao70, co70, eo70⟩ := Kd.S_slice HO154.out
                          subst eo70
                          have hnb71 := NB135_140.out
                          have hnc71 := NB140_135.out
                          have hcz72_0 : w61.cell? ⟨gb135, 0, none⟩ = some (.int .i64 (wrap64 (1 + t133))) := (blk_cell BK135.out 0).trans rfl
                          have hcz72_1 : w61.cell? ⟨gb135, 1, none⟩ = some (.int .i64 (wrap64 (1 + t134))) := (blk_cell BK135.out 1).trans rfl
                          have hfz72_0 := blk_frozen BK135.out 0
                          have hfz72_1 := blk_frozen BK135.out 1
                          go_wp2
                          repeat (go_quiet (fail); try go_wp2)
                          go_meet
                          case rel => exact ⟨_, (((wrap64 ((t151.length : Int) + t136)) != (wrap64 ((wrap64 (1 + t130)) + (wrap64 (1 + t133)))))), (by first | rfl | (simp; done) | (simp [*]; done)), H', ⟨by have := HK1.out; have := HJ33.out; first | omega | exact Nat.le_refl _⟩, ⟨by (with_reducible repeat (first | apply Kd.S_alloc | apply Kd.S_drewN | apply Kd.S_drew)); exact Kd.S_mono HO154.out (fun _ hk => hk.2)⟩, ⟨by (with_reducible repeat (first | apply Kd.R_alloc | apply Kd.R_drewN | apply Kd.R_drew)); exact HO157.out⟩, ⟨by (with_reducible repeat (first | refine blk_drewN ?_ _ | refine blk_drew ?_ | refine blk_alloc ?_ _)); exact BK132.out⟩, ⟨by (with_reducible repeat (first | refine blk_drewN ?_ _ | refine blk_drew ?_ | refine blk_alloc ?_ _)); exact BK135.out⟩, ⟨by (with_reducible repeat (first | refine blk_drewN ?_ _ | refine blk_drew ?_ | refine blk_alloc ?_ _)); exact BK140.out⟩, ⟨by repeat (first | (with_reducible first | exact HB.out | apply below_alloc | apply pw_below_drewN | apply below_drew1 | refine below_set ?_ GE132.out | refine below_set ?_ GE135.out | refine below_set ?_ GE140.out) | exact HB.out)⟩⟩
                        · rw [if_neg c65] at H
                          have c65b0 : ((t155.length : Int) == (wrap64 (1 + t130))) = false := beq_eq_false_iff_ne.mpr c65
                          have c65b1 : ((t155.length : Int) != (wrap64 (1 + t130))) = true := bne_iff_ne.mpr c65
                          have H' := Aside0.mk H
                          clear H
                          obtain ⟨Ao73, co73, eo73⟩ := Kd.R_slice HO157.out
                          subst eo73
                          have hnb74 := NB132_135.out
                          have hnc74 := NB135_132.out
                          have hnb75 := NB132_140.out
                          have hnc75 := NB140_132.out
                          have hcz76_0 : w61.cell? ⟨gb132, 0, none⟩ = some (.int .i64 (wrap64 (1 + t130))) := (blk_cell BK132.out 0).trans rfl
                          have hcz76_1 : w61.cell? ⟨gb132, 1, none⟩ = some (.int .i64 (wrap64 (1 + t131))) := (blk_cell BK132.out 1).trans rfl
                          have hfz76_0 := blk_frozen BK132.out 0
                          have hfz76_1 := blk_frozen BK132.out 1
                          go_wp2
                          repeat (go_quiet (fail); try go_wp2)
                          go_meet
                          case rel => exact ⟨_, (true), (by first | rfl | (simp; done) | (simp [*]; done)), H', ⟨by have := HK1.out; have := HJ33.out; first | omega | exact Nat.le_refl _⟩, ⟨by (with_reducible repeat (first | apply Kd.S_alloc | apply Kd.S_drewN | apply Kd.S_drew)); exact Kd.S_mono HO154.out (fun _ hk => hk.2)⟩, ⟨by (with_reducible repeat (first | apply Kd.R_alloc | apply Kd.R_drewN | apply Kd.R_drew)); exact HO157.out⟩, ⟨by (with_reducible repeat (first | refine blk_drewN ?_ _ | refine blk_drew ?_ | refine blk_alloc ?_ _)); exact BK132.out⟩, ⟨by (with_reducible repeat (first | refine blk_drewN ?_ _ | refine blk_drew ?_ | refine blk_alloc ?_ _)); exact BK135.out⟩, ⟨by (with_reducible repeat (first | refine blk_drewN ?_ _ | refine blk_drew ?_ | refine blk_alloc ?_ _)); exact BK140.out⟩, ⟨by repeat (first | (with_reducible first | exact HB.out | apply below_alloc | apply pw_below_drewN | apply below_drew1 | refine below_set ?_ GE132.out | refine below_set ?_ GE135.out | refine below_set ?_ GE140.out) | exact HB.out)⟩⟩
                      · rw [if_neg c64] at H
                        have c64b0 : (t158 == 0) = false := beq_eq_false_iff_ne.mpr c64
                        have c64b1 : (t158 != 0) = true := bne_iff_ne.mpr c64
                        have H' := Aside0.mk H
                        clear H
                        go_wp2
                        repeat (go_quiet (fail); try go_wp2)
                        go_meet
                        case rel => exact ⟨_, (true), (by first | rfl | (simp; done) | (simp [*]; done)), H', ⟨by have := HK1.out; have := HJ33.out; first | omega | exact Nat.le_refl _⟩, ⟨by (with_reducible repeat (first | apply Kd.S_alloc | apply Kd.S_drewN | apply Kd.S_drew)); exact Kd.S_mono HO154.out (fun _ hk => hk.2)⟩, ⟨by (with_reducible repeat (first | apply Kd.R_alloc | apply Kd.R_drewN | apply Kd.R_drew)); exact HO157.out⟩, ⟨by (with_reducible repeat (first | refine blk_drewN ?_ _ | refine blk_drew ?_ | refine blk_alloc ?_ _)); exact BK132.out⟩, ⟨by (with_reducible repeat (first | refine blk_drewN ?_ _ | refine blk_drew ?_ | refine blk_alloc ?_ _)); exact BK135.out⟩, ⟨by (with_reducible repeat (first | refine blk_drewN ?_ _ | refine blk_drew ?_ | refine blk_alloc ?_ _)); exact BK140.out⟩, ⟨by repeat (first | (with_reducible first | exact HB.out | apply below_alloc | apply pw_below_drewN | apply below_drew1 | refine below_set ?_ GE132.out | refine below_set ?_ GE135.out | refine below_set ?_ GE140.out) | exact HB.out)⟩⟩
                    · rw [if_neg c63] at H
                      have c63b0 : (t152 == 0) = false := beq_eq_false_iff_ne.mpr c63
                      have c63b1 : (t152 != 0) = true := bne_iff_ne.mpr c63
                      have H' := Aside0.mk H
                      clear H
                      go_wp2
                      repeat (go_quiet (fail); try go_wp2)
                      go_meet
                      case rel => exact ⟨_, (true), (by first | rfl | (simp; done) | (simp [*]; done)), H', ⟨by have := HK1.out; have := HJ33.out; first | omega | exact Nat.le_refl _⟩, ⟨by (with_reducible repeat (first | apply Kd.S_alloc | apply Kd.S_drewN | apply Kd.S_drew)); exact Kd.S_mono HO154.out (fun _ hk => hk.2)⟩, ⟨by (with_reducible repeat (first | apply Kd.R_alloc | apply Kd.R_drewN | apply Kd.R_drew)); exact HO157.out⟩, ⟨by (with_reducible repeat (first | refine blk_drewN ?_ _ | refine blk_drew ?_ | refine blk_alloc ?_ _)); exact BK132.out⟩, ⟨by (with_reducible repeat (first | refine blk_drewN ?_ _ | refine blk_drew ?_ | refine blk_alloc ?_ _)); exact BK135.out⟩, ⟨by (with_reducible repeat (first | refine blk_drewN ?_ _ | refine blk_drew ?_ | refine blk_alloc ?_ _)); exact BK140.out⟩, ⟨by repeat (first | (with_reducible first | exact HB.out | apply below_alloc | apply pw_below_drewN | apply below_drew1 | refine below_set ?_ GE132.out | refine below_set ?_ GE135.out | refine below_set ?_ GE140.out) | exact HB.out)⟩⟩
                  · rw [if_neg c62] at H
                    have c62b0 : (t147 == 0) = false := beq_eq_false_iff_ne.mpr c62
                    have c62b1 : (t147 != 0) = true := bne_iff_ne.mpr c62
                    (first | rw [c62b0] | (simp only [i64_w, i32_w]; rw [c62b0]) | skip)
                    have H' := Aside0.mk H
                    clear H
                    go_wp2
                    repeat (go_quiet (fail); try go_wp2)
                    go_meet
                    case rel => exact ⟨_, (true), (by first | rfl | (simp; done) | (simp [*]; done)), H', ⟨by have := HK1.out; have := HJ33.out; first | omega | exact Nat.le_refl _⟩, ⟨by (with_reducible repeat (first | apply Kd.S_alloc | apply Kd.S_drewN | apply Kd.S_drew)); exact Kd.S_mono HO154.out (fun _ hk => hk.2)⟩, ⟨by (with_reducible repeat (first | apply Kd.R_alloc | apply Kd.R_drewN | apply Kd.R_drew)); exact HO157.out⟩, ⟨by (with_reducible repeat (first | refine blk_drewN ?_ _ | refine blk_drew ?_ | refine blk_alloc ?_ _)); exact BK132.out⟩, ⟨by (with_reducible repeat (first | refine blk_drewN ?_ _ | refine blk_drew ?_ | refine blk_alloc ?_ _)); exact BK135.out⟩, ⟨by (with_reducible repeat (first | refine blk_drewN ?_ _ | refine blk_drew ?_ | refine blk_alloc ?_ _)); exact BK140.out⟩, ⟨by repeat (first | (with_reducible first | exact HB.out | apply below_alloc | apply pw_below_drewN | apply below_drew1 | refine below_set ?_ GE132.out | refine below_set ?_ GE135.out | refine below_set ?_ GE140.out) | exact HB.out)⟩⟩
                case rest => as_aux_lemma =>
                  clear HC44
                  try clear c1
                  try clear c2
                  try clear p2
                  try clear c3
                  try clear c4
                  try clear c6
                  try clear p6
                  try clear c7
                  try clear c15
                  try clear c25
                  try clear c26
                  try clear c32
                  try clear c32b0
                  try clear c33
                  try clear c33b0
                  try clear c33b1
                  try clear c35
                  try clear c35b0
                  try clear c35b1
                  try clear c36
                  try clear c36b0
                  try clear c36b1
                  try clear c37
                  try clear c37b0
                  try clear c37b1
                  try clear c38
                  try clear c38b0
                  try clear c39
                  try clear c39b0
                  try clear c39b1
                  try clear c40
                  try clear c45
                  try clear c46
                  try clear c48
                  try clear c62
                  try clear c62b0
                  try clear c62b1
                  try clear c63
                  try clear c63b0
                  try clear c63b1
                  try clear c64
                  try clear c64b0
                  try clear c64b1
                  try clear p64
                  try clear c65
                  try clear c65b0
                  try clear c65b1
                  try clear c67
                  try clear c68
                  try clear c71
                  try clear c74
                  try clear c75
                  try clear hcz13_0
                  try clear hcz13_1
                  try clear hcz16_0
                  try clear hcz16_1
                  try clear hcz17_0
                  try clear hcz17_1
                  try clear hcz19_0
                  try clear hcz19_1
                  try clear hcz20_0
                  try clear hcz20_1
                  try clear hcz22_0
                  try clear hcz22_1
                  try clear hcz23_0
                  try clear hcz23_1
                  try clear hcz27_0
                  try clear hcz27_1
                  try clear hcz28_0
                  try clear hcz28_1
                  try clear hcz30_0
                  try clear hcz30_1
                  try clear hcz31_0
                  try clear hcz31_1
                  try clear hcz47_0
                  try clear hcz47_1
                  try clear hcz49_0
                  try clear hcz49_1
                  try clear hcz54_0
                  try clear hcz54_1
                  try clear hcz55_0
                  try clear hcz55_1
                  try clear hcz60_0
                  try clear hcz60_1
                  try clear hcz69_0
                  try clear hcz69_1
                  try clear hcz72_0
                  try clear hcz72_1
                  try clear hcz76_0
                  try clear hcz76_1
                  try clear hfz13_0
                  try clear hfz13_1
                  try clear hfz16_0
                  try clear hfz16_1
                  try clear hfz17_0
                  try clear hfz17_1
                  try clear hfz19_0
                  try clear hfz19_1
                  try clear hfz20_0
                  try clear hfz20_1
                  try clear hfz22_0
                  try clear hfz22_1
                  try clear hfz23_0
                  try clear hfz23_1
                  try clear hfz27_0
                  try clear hfz27_1
                  try clear hfz28_0
                  try clear hfz28_1
                  try clear hfz30_0
                  try clear hfz30_1
                  try clear hfz31_0
                  try clear hfz31_1
                  try clear hfz47_0
                  try clear hfz47_1
                  try clear hfz49_0
                  try clear hfz49_1
                  try clear hfz54_0
                  try clear hfz54_1
                  try clear hfz55_0
                  try clear hfz55_1
                  try clear hfz60_0
                  try clear hfz60_1
                  try clear hfz69_0
                  try clear hfz69_1
                  try clear hfz72_0
                  try clear hfz72_1
                  try clear hfz76_0
                  try clear hfz76_1
                  try clear p2
                  try clear p6
                  obtain ⟨kq, x149_43, rfl, HA, HJ43, HO_19, HO_21, BK132, BK135, BK140, HB⟩ := hcut
                  cases kq with
                  | zero => exact absurd HA.out (by simp [laws_FnSpeeds.j2])
                  | succ kj43 =>
                    have H := HA.out
                    clear HA
                    simp only [laws_FnSpeeds.j2] at H
                    by_cases c77 : x149_43 = true
                    · subst c77
                      have H1 : (some false) = some r := by rw [if_pos rfl] at H; exact H
                      clear H
                      have H := H1
                      clear H1
                      obtain rfl := Option.some.inj H
                      go_wp2
                      repeat (go_quiet (fail); try go_wp2)
                      go_ret
                      exact ⟨by first | rfl | (simp [errW_none, errW_some] <;> rfl) | (simp [*, errW_none, errW_some] <;> rfl), by repeat (first | (with_reducible first | exact HB.out | apply below_alloc | apply pw_below_drewN | apply below_drew1 | refine below_set ?_ GE132.out | refine below_set ?_ GE135.out | refine below_set ?_ GE140.out) | exact HB.out)⟩
                    · replace c77 := Bool.eq_false_iff.mpr c77
                      subst c77
                      have H1 : (laws_FnSpeeds.l1 kj43 t146 t151 t155 0 0 (wrap64 (1 + t130)) (wrap64 (1 + t131)) (wrap64 (1 + t133)) (wrap64 (1 + t134))) = some r := by rw [if_neg (show ¬ (false = true) by decide)] at H; exact H
                      clear H
                      have H := H1
                      clear H1
                      have H' := Aside0.mk H
                      clear H
                      go_wp2
                      repeat (go_quiet (fail); try go_wp2)
                      go_loopg [23, 24] kj43 (fun kq v23 v24 w' => ∃ (x23_4 : Int) (x24_4 : Int), v23 = .int .i64 x23_4 ∧ v24 = .int .i64 x24_4 ∧ Aside0 (laws_FnSpeeds.l1 kq t146 t151 t155 x23_4 x24_4 (wrap64 (1 + t130)) (wrap64 (1 + t131)) (wrap64 (1 + t133)) (wrap64 (1 + t134)) = some r) ∧ Aside0 (kq ≤ kj43) ∧ Aside0 (Kd.S (Kd.slice 2 (Kd.int .i64)) 34 w' w.heap.size (fun k_ => some k_ ≠ (v156 : Value).ownBlock) v153 t151) ∧ Aside0 (Kd.R (Kd.int .i64) 2 w' w.heap.size (fun _ => True) v156 t155) ∧ Aside0 (w'.heap[gb132]? = some (.cells #[.int .i64 (wrap64 (1 + t130)), .int .i64 (wrap64 (1 + t131))] 26 (0, 0))) ∧ Aside0 (w'.heap[gb135]? = some (.cells #[.int .i64 (wrap64 (1 + t133)), .int .i64 (wrap64 (1 + t134))] 26 (0, 0))) ∧ Aside0 (w'.heap[gb140]? = some (.cells #[.int .i64 (wrap64 (1 + t133)), .int .i64 (wrap64 (1 + t131))] 26 (0, 0))) ∧ Aside0 (Below w.heap.size w w'))
                      case atStart => exact ⟨(0), (0), (by first | rfl | (simp; done) | (simp [*]; done)), (by first | rfl | (simp; done) | (simp [*]; done)), H', ⟨Nat.le_refl _⟩, ⟨by (with_reducible repeat (first | apply Kd.S_alloc | apply Kd.S_drewN | apply Kd.S_drew)); exact HO_19.out⟩, ⟨by (with_reducible repeat (first | apply Kd.R_alloc | apply Kd.R_drewN | apply Kd.R_drew)); exact HO_21.out⟩, ⟨by (with_reducible repeat (first | refine blk_drewN ?_ _ | refine blk_drew ?_ | refine blk_alloc ?_ _)); exact BK132.out⟩, ⟨by (with_reducible repeat (first | refine blk_drewN ?_ _ | refine blk_drew ?_ | refine blk_alloc ?_ _)); exact BK135.out⟩, ⟨by (with_reducible repeat (first | refine blk_drewN ?_ _ | refine blk_drew ?_ | refine blk_alloc ?_ _)); exact BK140.out⟩, ⟨by repeat (first | (with_reducible first | exact HB.out | apply below_alloc | apply pw_below_drewN | apply below_drew1 | refine below_set ?_ GE132.out | refine below_set ?_ GE135.out | refine below_set ?_ GE140.out) | exact HB.out)⟩⟩
                      case round => as_aux_lemma =>
                        clear H'
                        try clear c1
                        try clear c2
                        try clear p2
                        try clear c3
                        try clear c4
                        try clear c6
                        try clear p6
                        try clear c7
                        try clear c15
                        try clear c25
                        try clear c26
                        try clear c32
                        try clear c32b0
                        try clear c33
                        try clear c33b0
                        try clear c33b1
                        try clear c35
                        try clear c35b0
                        try clear c35b1
                        try clear c36
                        try clear c36b0
                        try clear c36b1
                        try clear c37
                        try clear c37b0
                        try clear c37b1
                        try clear c38
                        try clear c38b0
                        try clear c39
                        try clear c39b0
                        try clear c39b1
                        try clear c40
                        try clear c45
                        try clear c46
                        try clear c48
                        try clear c62
                        try clear c62b0
                        try clear c62b1
                        try clear c63
                        try clear c63b0
                        try clear c63b1
                        try clear c64
                        try clear c64b0
                        try clear c64b1
                        try clear p64
                        try clear c65
                        try clear c65b0
                        try clear c65b1
                        try clear c67
                        try clear c68
                        try clear c71
                        try clear c74
                        try clear c75
                        try clear c77
                        try clear hcz13_0
                        try clear hcz13_1
                        try clear hcz16_0
                        try clear hcz16_1
                        try clear hcz17_0
                        try clear hcz17_1
                        try clear hcz19_0
                        try clear hcz19_1
                        try clear hcz20_0
                        try clear hcz20_1
                        try clear hcz22_0
                        try clear hcz22_1
                        try clear hcz23_0
                        try clear hcz23_1
                        try clear hcz27_0
                        try clear hcz27_1
                        try clear hcz28_0
                        try clear hcz28_1
                        try clear hcz30_0
                        try clear hcz30_1
                        try clear hcz31_0
                        try clear hcz31_1
                        try clear hcz47_0
                        try clear hcz47_1
                        try clear hcz49_0
                        try clear hcz49_1
                        try clear hcz54_0
                        try clear hcz54_1
                        try clear hcz55_0
                        try clear hcz55_1
                        try clear hcz60_0
                        try clear hcz60_1
                        try clear hcz69_0
                        try clear hcz69_1
                        try clear hcz72_0
                        try clear hcz72_1
                        try clear hcz76_0
                        try clear hcz76_1
                        try clear hfz13_0
                        try clear hfz13_1
                        try clear hfz16_0
                        try clear hfz16_1
                        try clear hfz17_0
                        try clear hfz17_1
                        try clear hfz19_0
                        try clear hfz19_1
                        try clear hfz20_0
                        try clear hfz20_1
                        try clear hfz22_0
                        try clear hfz22_1
                        try clear hfz23_0
                        try clear hfz23_1
                        try clear hfz27_0
                        try clear hfz27_1
                        try clear hfz28_0
                        try clear hfz28_1
                        try clear hfz30_0
                        try clear hfz30_1
                        try clear hfz31_0
                        try clear hfz31_1
                        try clear hfz47_0
                        try clear hfz47_1
                        try clear hfz49_0
                        try clear hfz49_1
                        try clear hfz54_0
                        try clear hfz54_1
                        try clear hfz55_0
                        try clear hfz55_1
                        try clear hfz60_0
                        try clear hfz60_1
                        try clear hfz69_0
                        try clear hfz69_1
                        try clear hfz72_0
                        try clear hfz72_1
                        try clear hfz76_0
                        try clear hfz76_1
                        try clear p2
                        try clear p6
                        try clear p64
                        obtain ⟨x23_4, x24_4, rfl, rfl, HA, HK4, HO_19, HO_21, BK132, BK135, BK140, HB⟩ := hrel
                        cases gk with
                        | zero => exact absurd HA.out (by simp [laws_FnSpeeds.l1])
                        | succ k4 =>
                          have H := HA.out
                          clear HA
                          simp only [laws_FnSpeeds.l1] at H
                          by_cases c78 : x24_4 < (t151.length : Int)
                          · rw [if_pos c78] at H
                            have c78b0 : decide (x24_4 < (t151.length : Int)) = true := decide_eq_true c78
                            clear c78
                            by_cases c79 : 0 ≤ x24_4
                            · rw [if_pos c79] at H
                              have c79b0 : decide (0 ≤ x24_4) = true := decide_eq_true c79
                              clear c79
                              by_cases c80 : ((rd_L5 t151 x24_4).length : Int) = 2
                              · rw [if_pos c80] at H
                                have c80b0 : (((rd_L5 t151 x24_4).length : Int) == 2) = true := beq_iff_eq.mpr c80
                                have c80b1 : (((rd_L5 t151 x24_4).length : Int) != 2) = false := bne_eq_false_iff_eq.mpr c80
                                clear c80
                                by_cases c81 : x24_4 > 0
                                · rw [if_pos c81] at H
                                  have c81b0 : decide (0 < x24_4) = true := decide_eq_true c81
                                  clear c81
                                  by_cases c82 : 0 < ((rd_L5 t151 x24_4).length : Int)
                                  · rw [if_pos c82] at H
                                    have c82b0 : decide (0 < ((rd_L5 t151 x24_4).length : Int)) = true := decide_eq_true c82
                                    have c82b1 : decide (0 < (rd_L5 t151 x24_4).length) = true := decide_eq_true (by omega)
                                    clear c82
                                    obtain ⟨ji83, hji83⟩ : ∃ j_ : Int, (wrap64 (x24_4 - 1)) = j_ := ⟨_, rfl⟩
                                    replace H : (if 0 ≤ (ji83) then (if (ji83) < (t151.length : Int) then (if 0 < ((rd_L5 t151 (ji83)).length : Int) then (if (rd (rd_L5 t151 x24_4) 0) ≤ (rd (rd_L5 t151 (ji83)) 0) then (some false) else (if 1 < ((rd_L5 t151 x24_4).length : Int) then (laws_FnSpeeds.l1 k4 t146 t151 t155 (wrap64 (x23_4 + (rd (rd_L5 t151 x24_4) 1))) (wrap64 (x24_4 + 1)) (wrap64 (1 + t130)) (wrap64 (1 + t131)) (wrap64 (1 + t133)) (wrap64 (1 + t134))) else (none))) else (none)) else (none)) else (none)) = some r := by first | (rw [hji83] at H; exact H) | (simp only [hji83] at H ⊢; exact H)
                                    have hji83w : (IntKind.i64.wrap (x24_4 - 1)) = ji83 := (i64_w _).trans hji83
                                    by_cases c84 : 0 ≤ (ji83)
                                    · rw [if_pos c84] at H
                                      have c84b0 : decide (0 ≤ (ji83)) = true := decide_eq_true c84
                                      clear c84
                                      by_cases c85 : (ji83) < (t151.length : Int)
                                      · rw [if_pos c85] at H
                                        have c85b0 : decide ((ji83) < (t151.length : Int)) = true := decide_eq_true c85
                                        clear c85
                                        by_cases c86 : 0 < ((rd_L5 t151 (ji83)).length : Int)
                                        · rw [if_pos c86] at H
                                          have c86b0 : decide (0 < ((rd_L5 t151 (ji83)).length : Int)) = true := decide_eq_true c86
                                          have c86b1 : decide (0 < (rd_L5 t151 (ji83)).length) = true := decide_eq_true (by omega)
                                          clear c86
                                          by_cases c87 : (rd (rd_L5 t151 x24_4) 0) ≤ (rd (rd_L5 t151 (ji83)) 0)
                                          · rw [if_pos c87] at H
                                            have c87b0 : decide ((rd (rd_L5 t151 x24_4) 0) ≤ (rd (rd_L5 t151 (ji83)) 0)) = true := decide_eq_true c87
                                            clear c87
                                            obtain rfl := Option.some.inj H
                                            obtain ⟨Ao88, co88, eo88⟩ := Kd.S_slice HO_19.out
                                            subst eo88
                                            have p159 : 0 ≤ (x24_4 : Int) := of_decide_eq_true (by first | (with_reducible assumption) | assumption)
                                            have q159 : x24_4 < (t151.length : Int) := of_decide_eq_true (by first | (with_reducible assumption) | assumption)
                                            obtain ⟨ad159, A159_0, c159_0, e159, hx159_0, hl159_0, hi159_0⟩ := at_L5 (Kd.S_reads' HO_19.out).2.2 x24_4 p159 q159
                                            cases e159
                                            obtain ⟨ce159, hce159, hMe159, hcc159⟩ := Kd.S_get HO_19.out [] x24_4 p159 (by first | exact q159 | exact of_decide_eq_true (by first | (with_reducible assumption) | assumption) | (have e_ := (Kd.S_reads' HO_19.out).1; omega))
                                            obtain ⟨ve159_0, rfl, ge159_0⟩ := hMe159
                                            have hv159_0 := hcc159 0 _ rfl
                                            rw [Nat.add_zero, show ((Kd.slice 2 (Kd.int .i64))).sz = 1 from rfl, Nat.mul_one] at hv159_0
                                            replace hv159_0 := Option.some.inj (hv159_0.symm.trans hx159_0)
                                            rw [hv159_0] at ge159_0
                                            have HL159_0 := Aside0.mk (show Kd.R (Kd.int .i64) 2 _ _ _ _ (rd_L5 t151 x24_4) from ge159_0)
                                            clear hv159_0 ge159_0
                                            clear hcc159 hce159
                                            have HR159_0 := Aside0.mk hi159_0
                                            have HC159_0 := Aside0.mk hl159_0
                                            clear hi159_0 hl159_0
                                            replace p159 := eq_true p159
                                            replace q159 := eq_true q159
                                            have p160 : 0 ≤ (x24_4 : Int) := of_decide_eq_true (by first | (with_reducible assumption) | assumption)
                                            have q160 : x24_4 < (t151.length : Int) := of_decide_eq_true (by first | (with_reducible assumption) | assumption)
                                            obtain ⟨ad160, A160_0, c160_0, e160, hx160_0, hl160_0, hi160_0⟩ := at_L5 (Kd.S_reads' HO_19.out).2.2 x24_4 p160 q160
                                            obtain rfl : ad159 = ad160 := (by injection e160)
                                            obtain ⟨ce160, hce160, hMe160, hcc160⟩ := Kd.S_get HO_19.out [] x24_4 p160 (by first | exact q160 | exact of_decide_eq_true (by first | (with_reducible assumption) | assumption) | (have e_ := (Kd.S_reads' HO_19.out).1; omega))
                                            obtain ⟨ve160_0, rfl, ge160_0⟩ := hMe160
                                            have hv160_0 := hcc160 0 _ rfl
                                            rw [Nat.add_zero, show ((Kd.slice 2 (Kd.int .i64))).sz = 1 from rfl, Nat.mul_one] at hv160_0
                                            replace hv160_0 := Option.some.inj (hv160_0.symm.trans hx160_0)
                                            rw [hv160_0] at ge160_0
                                            have HL160_0 := Aside0.mk (show Kd.R (Kd.int .i64) 2 _ _ _ _ (rd_L5 t151 x24_4) from ge160_0)
                                            clear hv160_0 ge160_0
                                            clear hcc160 hce160
                                            have HR160_0 := Aside0.mk hi160_0
                                            have HC160_0 := Aside0.mk hl160_0
                                            clear hi160_0 hl160_0
                                            replace p160 := eq_true p160
                                            replace q160 := eq_true q160
                                            have ea_ := Option.some.inj (hx159_0.symm.trans hx160_0)
                                            injection ea_ with ea_ en_ ec_
                                            subst ea_
                                            subst ec_
                                            clear en_
                                            have p161 : 0 ≤ (0 : Int) := (by omega)
                                            have q161 : 0 < ((rd_L5 t151 x24_4).length : Int) := of_decide_eq_true (by first | (with_reducible assumption) | assumption)
                                            obtain ⟨ad161, e161, hx161_0⟩ := Kd.at_int (by repeat (first | (with_reducible exact HR160_0.out) | (with_reducible refine Kd.C_alloc ?_ _) | (with_reducible refine Kd.C_drewN ?_ _) | (with_reducible refine Kd.C_drew ?_) | exact HR160_0.out)) 0 p161 q161
                                            cases e161
                                            have qi161 : (0 < (rd_L5 t151 x24_4).length) = True := eq_true (by omega)
                                            (try rw [show ((0 : Int)).toNat = 0 from rfl] at hx161_0)
                                            (try rw [Addr.add_zero'] at hx161_0)
                                            replace p161 := eq_true p161
                                            replace q161 := eq_true q161
                                            have p162 : 0 ≤ ((ji83) : Int) := of_decide_eq_true (by first | (with_reducible assumption) | assumption)
                                            have q162 : (ji83) < (t151.length : Int) := of_decide_eq_true (by first | (with_reducible assumption) | assumption)
                                            obtain ⟨ad162, A162_0, c162_0, e162, hx162_0, hl162_0, hi162_0⟩ := at_L5 (Kd.S_reads' HO_19.out).2.2 (ji83) p162 q162
                                            obtain rfl : ad159 = ad162 := (by injection e162)
                                            obtain ⟨ce162, hce162, hMe162, hcc162⟩ := Kd.S_get HO_19.out [] (ji83) p162 (by first | exact q162 | exact of_decide_eq_true (by first | (with_reducible assumption) | assumption) | (have e_ := (Kd.S_reads' HO_19.out).1; omega))
                                            obtain ⟨ve162_0, rfl, ge162_0⟩ := hMe162
                                            have hv162_0 := hcc162 0 _ rfl
                                            rw [Nat.add_zero, show ((Kd.slice 2 (Kd.int .i64))).sz = 1 from rfl, Nat.mul_one] at hv162_0
                                            replace hv162_0 := Option.some.inj (hv162_0.symm.trans hx162_0)
                                            rw [hv162_0] at ge162_0
                                            have HL162_0 := Aside0.mk (show Kd.R (Kd.int .i64) 2 _ _ _ _ (rd_L5 t151 (ji83)) from ge162_0)
                                            clear hv162_0 ge162_0
                                            clear hcc162 hce162
                                            have HR162_0 := Aside0.mk hi162_0
                                            have HC162_0 := Aside0.mk hl162_0
                                            clear hi162_0 hl162_0
                                            replace p162 := eq_true p162
                                            replace q162 := eq_true q162
                                            have p163 : 0 ≤ (0 : Int) := (by omega)
                                            have q163 : 0 < ((rd_L5 t151 (ji83)).length : Int) := of_decide_eq_true (by first | (with_reducible assumption) | assumption)
                                            obtain ⟨ad163, e163, hx163_0⟩ := Kd.at_int (by repeat (first | (with_reducible exact HR162_0.out) | (with_reducible refine Kd.C_alloc ?_ _) | (with_reducible refine Kd.C_drewN ?_ _) | (with_reducible refine Kd.C_drew ?_) | exact HR162_0.out)) 0 p163 q163
                                            cases e163
                                            have qi163 : (0 < (rd_L5 t151 (ji83)).length) = True := eq_true (by omega)
                                            (try rw [show ((0 : Int)).toNat = 0 from rfl] at hx163_0)
                                            (try rw [Addr.add_zero'] at hx163_0)
                                            replace p163 := eq_true p163
                                            replace q163 := eq_true q163
                                            go_wp2
                                            repeat (go_quiet (fail); try go_wp2)
                                            go_ret
                                            exact ⟨by first | rfl | (simp [errW_none, errW_some] <;> rfl) | (simp only [← hji83]; first | rfl | (simp [errW_none, errW_some] <;> rfl)) | (simp [*, errW_none, errW_some] <;> rfl), by repeat (first | (with_reducible first | exact HB.out | apply below_alloc | apply pw_below_drewN | apply below_drew1 | refine below_set ?_ GE132.out | refine below_set ?_ GE135.out | refine below_set ?_ GE140.out) | exact HB.out)⟩
                                          · rw [if_neg c87] at H
                                            have c87b0 : decide ((rd (rd_L5 t151 x24_4) 0) ≤ (rd (rd_L5 t151 (ji83)) 0)) = false := decide_eq_false c87
                                            clear c87
                                            by_cases c89 : 1 < ((rd_L5 t151 x24_4).length : Int)
                                            · rw [if_pos c89] at H
                                              have c89b0 : decide (1 < ((rd_L5 t151 x24_4).length : Int)) = true := decide_eq_true c89
                                              have c89b1 : decide (1 < (rd_L5 t151 x24_4).length) = true := decide_eq_true (by omega)
                                              clear c89
                                              have H' := Aside0.mk H
                                              clear H
                                              obtain ⟨Ao90, co90, eo90⟩ := Kd.S_slice HO_19.out
                                              subst eo90
                                              have p159 : 0 ≤ (x24_4 : Int) := of_decide_eq_true (by first | (with_reducible assumption) | assumption)
                                              have q159 : x24_4 < (t151.length : Int) := of_decide_eq_true (by first | (with_reducible assumption) | assumption)
                                              obtain ⟨ad159, A159_0, c159_0, e159, hx159_0, hl159_0, hi159_0⟩ := at_L5 (Kd.S_reads' HO_19.out).2.2 x24_4 p159 q159
                                              cases e159
                                              obtain ⟨ce159, hce159, hMe159, hcc159⟩ := Kd.S_get HO_19.out [] x24_4 p159 (by first | exact q159 | exact of_decide_eq_true (by first | (with_reducible assumption) | assumption) | (have e_ := (Kd.S_reads' HO_19.out).1; omega))
                                              obtain ⟨ve159_0, rfl, ge159_0⟩ := hMe159
                                              have hv159_0 := hcc159 0 _ rfl
                                              rw [Nat.add_zero, show ((Kd.slice 2 (Kd.int .i64))).sz = 1 from rfl, Nat.mul_one] at hv159_0
                                              replace hv159_0 := Option.some.inj (hv159_0.symm.trans hx159_0)
                                              rw [hv159_0] at ge159_0
                                              have HL159_0 := Aside0.mk (show Kd.R (Kd.int .i64) 2 _ _ _ _ (rd_L5 t151 x24_4) from ge159_0)
                                              clear hv159_0 ge159_0
                                              clear hcc159 hce159
                                              have HR159_0 := Aside0.mk hi159_0
                                              have HC159_0 := Aside0.mk hl159_0
                                              clear hi159_0 hl159_0
                                              replace p159 := eq_true p159
                                              replace q159 := eq_true q159
                                              have p160 : 0 ≤ (x24_4 : Int) := of_decide_eq_true (by first | (with_reducible assumption) | assumption)
                                              have q160 : x24_4 < (t151.length : Int) := of_decide_eq_true (by first | (with_reducible assumption) | assumption)
                                              obtain ⟨ad160, A160_0, c160_0, e160, hx160_0, hl160_0, hi160_0⟩ := at_L5 (Kd.S_reads' HO_19.out).2.2 x24_4 p160 q160
                                              obtain rfl : ad159 = ad160 := (by injection e160)
                                              obtain ⟨ce160, hce160, hMe160, hcc160⟩ := Kd.S_get HO_19.out [] x24_4 p160 (by first | exact q160 | exact of_decide_eq_true (by first | (with_reducible assumption) | assumption) | (have e_ := (Kd.S_reads' HO_19.out).1; omega))
                                              obtain ⟨ve160_0, rfl, ge160_0⟩ := hMe160
                                              have hv160_0 := hcc160 0 _ rfl
                                              rw [Nat.add_zero, show ((Kd.slice 2 (Kd.int .i64))).sz = 1 from rfl, Nat.mul_one] at hv160_0
                                              replace hv160_0 := Option.some.inj (hv160_0.symm.trans hx160_0)
                                              rw [hv160_0] at ge160_0
                                              have HL160_0 := Aside0.mk (show Kd.R (Kd.int .i64) 2 _ _ _ _ (rd_L5 t151 x24_4) from ge160_0)
                                              clear hv160_0 ge160_0
                                              clear hcc160 hce160
                                              have HR160_0 := Aside0.mk hi160_0
                                              have HC160_0 := Aside0.mk hl160_0
                                              clear hi160_0 hl160_0
                                              replace p160 := eq_true p160
                                              replace q160 := eq_true q160
                                              have ea_ := Option.some.inj (hx159_0.symm.trans hx160_0)
                                              injection ea_ with ea_ en_ ec_
                                              subst ea_
                                              subst ec_
                                              clear en_
                                              have p161 : 0 ≤ (0 : Int) := (by omega)
                                              have q161 : 0 < ((rd_L5 t151 x24_4).length : Int) := of_decide_eq_true (by first | (with_reducible assumption) | assumption)
                                              obtain ⟨ad161, e161, hx161_0⟩ := Kd.at_int (by repeat (first | (with_reducible exact HR160_0.out) | (with_reducible refine Kd.C_alloc ?_ _) | (with_reducible refine Kd.C_drewN ?_ _) | (with_reducible refine Kd.C_drew ?_) | exact HR160_0.out)) 0 p161 q161
                                              cases e161
                                              have qi161 : (0 < (rd_L5 t151 x24_4).length) = True := eq_true (by omega)
                                              (try rw [show ((0 : Int)).toNat = 0 from rfl] at hx161_0)
                                              (try rw [Addr.add_zero'] at hx161_0)
                                              replace p161 := eq_true p161
                                              replace q161 := eq_true q161
                                              have p162 : 0 ≤ ((ji83) : Int) := of_decide_eq_true (by first | (with_reducible assumption) | assumption)
                                              have q162 : (ji83) < (t151.length : Int) := of_decide_eq_true (by first | (with_reducible assumption) | assumption)
                                              obtain ⟨ad162, A162_0, c162_0, e162, hx162_0, hl162_0, hi162_0⟩ := at_L5 (Kd.S_reads' HO_19.out).2.2 (ji83) p162 q162
                                              obtain rfl : ad159 = ad162 := (by injection e162)
                                              obtain ⟨ce162, hce162, hMe162, hcc162⟩ := Kd.S_get HO_19.out [] (ji83) p162 (by first | exact q162 | exact of_decide_eq_true (by first | (with_reducible assumption) | assumption) | (have e_ := (Kd.S_reads' HO_19.out).1; omega))
                                              obtain ⟨ve162_0, rfl, ge162_0⟩ := hMe162
                                              have hv162_0 := hcc162 0 _ rfl
                                              rw [Nat.add_zero, show ((Kd.slice 2 (Kd.int .i64))).sz = 1 from rfl, Nat.mul_one] at hv162_0
                                              replace hv162_0 := Option.some.inj (hv162_0.symm.trans hx162_0)
                                              rw [hv162_0] at ge162_0
                                              have HL162_0 := Aside0.mk (show Kd.R (Kd.int .i64) 2 _ _ _ _ (rd_L5 t151 (ji83)) from ge162_0)
                                              clear hv162_0 ge162_0
                                              clear hcc162 hce162
                                              have HR162_0 := Aside0.mk hi162_0
                                              have HC162_0 := Aside0.mk hl162_0
                                              clear hi162_0 hl162_0
                                              replace p162 := eq_true p162
                                              replace q162 := eq_true q162
                                              have p163 : 0 ≤ (0 : Int) := (by omega)
                                              have q163 : 0 < ((rd_L5 t151 (ji83)).length : Int) := of_decide_eq_true (by first | (with_reducible assumption) | assumption)
                                              obtain ⟨ad163, e163, hx163_0⟩ := Kd.at_int (by repeat (first | (with_reducible exact HR162_0.out) | (with_reducible refine Kd.C_alloc ?_ _) | (with_reducible refine Kd.C_drewN ?_ _) | (with_reducible refine Kd.C_drew ?_) | exact HR162_0.out)) 0 p163 q163
                                              cases e163
                                              have qi163 : (0 < (rd_L5 t151 (ji83)).length) = True := eq_true (by omega)
                                              (try rw [show ((0 : Int)).toNat = 0 from rfl] at hx163_0)
                                              (try rw [Addr.add_zero'] at hx163_0)
                                              replace p163 := eq_true p163
                                              replace q163 := eq_true q163
                                              have p164 : 0 ≤ (x24_4 : Int) := of_decide_eq_true (by first | (with_reducible assumption) | assumption)
                                              have q164 : x24_4 < (t151.length : Int) := of_decide_eq_true (by first | (with_reducible assumption) | assumption)
                                              obtain ⟨ad164, A164_0, c164_0, e164, hx164_0, hl164_0, hi164_0⟩ := at_L5 (Kd.S_reads' HO_19.out).2.2 x24_4 p164 q164
                                              obtain rfl : ad159 = ad164 := (by injection e164)
                                              obtain ⟨ce164, hce164, hMe164, hcc164⟩ := Kd.S_get HO_19.out [] x24_4 p164 (by first | exact q164 | exact of_decide_eq_true (by first | (with_reducible assumption) | assumption) | (have e_ := (Kd.S_reads' HO_19.out).1; omega))
                                              obtain ⟨ve164_0, rfl, ge164_0⟩ := hMe164
                                              have hv164_0 := hcc164 0 _ rfl
                                              rw [Nat.add_zero, show ((Kd.slice 2 (Kd.int .i64))).sz = 1 from rfl, Nat.mul_one] at hv164_0
                                              replace hv164_0 := Option.some.inj (hv164_0.symm.trans hx164_0)
                                              rw [hv164_0] at ge164_0
                                              have HL164_0 := Aside0.mk (show Kd.R (Kd.int .i64) 2 _ _ _ _ (rd_L5 t151 x24_4) from ge164_0)
                                              clear hv164_0 ge164_0
                                              clear hcc164 hce164
                                              have HR164_0 := Aside0.mk hi164_0
                                              have HC164_0 := Aside0.mk hl164_0
                                              clear hi164_0 hl164_0
                                              replace p164 := eq_true p164
                                              replace q164 := eq_true q164
                                              have ea_ := Option.some.inj (hx159_0.symm.trans hx164_0)
                                              injection ea_ with ea_ en_ ec_
                                              subst ea_
                                              subst ec_
                                              clear en_
                                              have p165 : 0 ≤ (1 : Int) := (by omega)
                                              have q165 : 1 < ((rd_L5 t151 x24_4).length : Int) := of_decide_eq_true (by first | (with_reducible assumption) | assumption)
                                              obtain ⟨ad165, e165, hx165_0⟩ := Kd.at_int (by repeat (first | (with_reducible exact HR164_0.out) | (with_reducible refine Kd.C_alloc ?_ _) | (with_reducible refine Kd.C_drewN ?_ _) | (with_reducible refine Kd.C_drew ?_) | exact HR164_0.out)) 1 p165 q165
                                              cases e165
                                              (try simp only [show (1 : Int).toNat = 1 from rfl, Nat.reduceMul, Nat.reduceEqDiff, Go.Addr.add, ↓reduceIte] at hx165_0)
                                              have qi165 : (1 < (rd_L5 t151 x24_4).length) = True := eq_true (by omega)
                                              (try rw [show ((1 : Int)).toNat = 1 from rfl] at hx165_0)
                                              replace p165 := eq_true p165
                                              replace q165 := eq_true q165
                                              go_wp2
                                              repeat (go_quiet (fail); try go_wp2)
                                              go_roundg k4
                                              case measure => have := HK1.out; have := HJ33.out; have := HJ43.out; have := HK4.out; omega
                                              case rel => exact ⟨(wrap64 (x23_4 + (rd (rd_L5 t151 x24_4) 1))), (wrap64 (x24_4 + 1)), (by first | rfl | (simp; done) | (simp [*]; done)), (by first | rfl | (simp; done) | (simp [*]; done)), H', ⟨by have := HK1.out; have := HJ33.out; have := HJ43.out; have := HK4.out; omega⟩, ⟨by (with_reducible repeat (first | apply Kd.S_alloc | apply Kd.S_drewN | apply Kd.S_drew)); exact HO_19.out⟩, ⟨by (with_reducible repeat (first | apply Kd.R_alloc | apply Kd.R_drewN | apply Kd.R_drew)); exact HO_21.out⟩, ⟨by (with_reducible repeat (first | refine blk_drewN ?_ _ | refine blk_drew ?_ | refine blk_alloc ?_ _)); exact BK132.out⟩, ⟨by (with_reducible repeat (first | refine blk_drewN ?_ _ | refine blk_drew ?_ | refine blk_alloc ?_ _)); exact BK135.out⟩, ⟨by (with_reducible repeat (first | refine blk_drewN ?_ _ | refine blk_drew ?_ | refine blk_alloc ?_ _)); exact BK140.out⟩, ⟨by repeat (first | (with_reducible first | exact HB.out | apply below_alloc | apply pw_below_drewN | apply below_drew1 | refine below_set ?_ GE132.out | refine below_set ?_ GE135.out | refine below_set ?_ GE140.out) | exact HB.out)⟩⟩
                                            · rw [if_neg c89] at H
                                              exact absurd H (by simp)
                                        · rw [if_neg c86] at H
                                          exact absurd H (by simp)
                                      · rw [if_neg c85] at H
                                        exact absurd H (by simp)
                                    · rw [if_neg c84] at H
                                      exact absurd H (by simp)
                                  · rw [if_neg c82] at H
                                    exact absurd H (by simp)
                                · rw [if_neg c81] at H
                                  have c81b0 : decide (0 < x24_4) = false := decide_eq_false c81
                                  clear c81
                                  by_cases c91 : 1 < ((rd_L5 t151 x24_4).length : Int)
                                  · rw [if_pos c91] at H
                                    have c91b0 : decide (1 < ((rd_L5 t151 x24_4).length : Int)) = true := decide_eq_true c91
                                    have c91b1 : decide (1 < (rd_L5 t151 x24_4).length) = true := decide_eq_true (by omega)
                                    clear c91
                                    have H' := Aside0.mk H
                                    clear H
                                    obtain ⟨Ao92, co92, eo92⟩ := Kd.S_slice HO_19.out
                                    subst eo92
                                    have p159 : 0 ≤ (x24_4 : Int) := of_decide_eq_true (by first | (with_reducible assumption) | assumption)
                                    have q159 : x24_4 < (t151.length : Int) := of_decide_eq_true (by first | (with_reducible assumption) | assumption)
                                    obtain ⟨ad159, A159_0, c159_0, e159, hx159_0, hl159_0, hi159_0⟩ := at_L5 (Kd.S_reads' HO_19.out).2.2 x24_4 p159 q159
                                    cases e159
                                    obtain ⟨ce159, hce159, hMe159, hcc159⟩ := Kd.S_get HO_19.out [] x24_4 p159 (by first | exact q159 | exact of_decide_eq_true (by first | (with_reducible assumption) | assumption) | (have e_ := (Kd.S_reads' HO_19.out).1; omega))
                                    obtain ⟨ve159_0, rfl, ge159_0⟩ := hMe159
                                    have hv159_0 := hcc159 0 _ rfl
                                    rw [Nat.add_zero, show ((Kd.slice 2 (Kd.int .i64))).sz = 1 from rfl, Nat.mul_one] at hv159_0
                                    replace hv159_0 := Option.some.inj (hv159_0.symm.trans hx159_0)
                                    rw [hv159_0] at ge159_0
                                    have HL159_0 := Aside0.mk (show Kd.R (Kd.int .i64) 2 _ _ _ _ (rd_L5 t151 x24_4) from ge159_0)
                                    clear hv159_0 ge159_0
                                    clear hcc159 hce159
                                    have HR159_0 := Aside0.mk hi159_0
                                    have HC159_0 := Aside0.mk hl159_0
                                    clear hi159_0 hl159_0
                                    replace p159 := eq_true p159
                                    replace q159 := eq_true q159
                                    have p166 : 0 ≤ (x24_4 : Int) := of_decide_eq_true (by first | (with_reducible assumption) | assumption)
                                    have q166 : x24_4 < (t151.length : Int) := of_decide_eq_true (by first | (with_reducible assumption) | assumption)
                                    obtain ⟨ad166, A166_0, c166_0, e166, hx166_0, hl166_0, hi166_0⟩ := at_L5 (Kd.S_reads' HO_19.out).2.2 x24_4 p166 q166
                                    obtain rfl : ad159 = ad166 := (by injection e166)
                                    obtain ⟨ce166, hce166, hMe166, hcc166⟩ := Kd.S_get HO_19.out [] x24_4 p166 (by first | exact q166 | exact of_decide_eq_true (by first | (with_reducible assumption) | assumption) | (have e_ := (Kd.S_reads' HO_19.out).1; omega))
                                    obtain ⟨ve166_0, rfl, ge166_0⟩ := hMe166
                                    have hv166_0 := hcc166 0 _ rfl
                                    rw [Nat.add_zero, show ((Kd.slice 2 (Kd.int .i64))).sz = 1 from rfl, Nat.mul_one] at hv166_0
                                    replace hv166_0 := Option.some.inj (hv166_0.symm.trans hx166_0)
                                    rw [hv166_0] at ge166_0
                                    have HL166_0 := Aside0.mk (show Kd.R (Kd.int .i64) 2 _ _ _ _ (rd_L5 t151 x24_4) from ge166_0)
                                    clear hv166_0 ge166_0
                                    clear hcc166 hce166
                                    have HR166_0 := Aside0.mk hi166_0
                                    have HC166_0 := Aside0.mk hl166_0
                                    clear hi166_0 hl166_0
                                    replace p166 := eq_true p166
                                    replace q166 := eq_true q166
                                    have ea_ := Option.some.inj (hx159_0.symm.trans hx166_0)
                                    injection ea_ with ea_ en_ ec_
                                    subst ea_
                                    subst ec_
                                    clear en_
                                    have p167 : 0 ≤ (1 : Int) := (by omega)
                                    have q167 : 1 < ((rd_L5 t151 x24_4).length : Int) := of_decide_eq_true (by first | (with_reducible assumption) | assumption)
                                    obtain ⟨ad167, e167, hx167_0⟩ := Kd.at_int (by repeat (first | (with_reducible exact HR166_0.out) | (with_reducible refine Kd.C_alloc ?_ _) | (with_reducible refine Kd.C_drewN ?_ _) | (with_reducible refine Kd.C_drew ?_) | exact HR166_0.out)) 1 p167 q167
                                    cases e167
                                    (try simp only [show (1 : Int).toNat = 1 from rfl, Nat.reduceMul, Nat.reduceEqDiff, Go.Addr.add, ↓reduceIte] at hx167_0)
                                    have qi167 : (1 < (rd_L5 t151 x24_4).length) = True := eq_true (by omega)
                                    (try rw [show ((1 : Int)).toNat = 1 from rfl] at hx167_0)
                                    replace p167 := eq_true p167
                                    replace q167 := eq_true q167
                                    go_wp2
                                    repeat (go_quiet (fail); try go_wp2)
                                    go_roundg k4
                                    case measure => have := HK1.out; have := HJ33.out; have := HJ43.out; have := HK4.out; omega
                                    case rel => exact ⟨(wrap64 (x23_4 + (rd (rd_L5 t151 x24_4) 1))), (wrap64 (x24_4 + 1)), (by first | rfl | (simp; done) | (simp [*]; done)), (by first | rfl | (simp; done) | (simp [*]; done)), H', ⟨by have := HK1.out; have := HJ33.out; have := HJ43.out; have := HK4.out; omega⟩, ⟨by (with_reducible repeat (first | apply Kd.S_alloc | apply Kd.S_drewN | apply Kd.S_drew)); exact HO_19.out⟩, ⟨by (with_reducible repeat (first | apply Kd.R_alloc | apply Kd.R_drewN | apply Kd.R_drew)); exact HO_21.out⟩, ⟨by (with_reducible repeat (first | refine blk_drewN ?_ _ | refine blk_drew ?_ | refine blk_alloc ?_ _)); exact BK132.out⟩, ⟨by (with_reducible repeat (first | refine blk_drewN ?_ _ | refine blk_drew ?_ | refine blk_alloc ?_ _)); exact BK135.out⟩, ⟨by (with_reducible repeat (first | refine blk_drewN ?_ _ | refine blk_drew ?_ | refine blk_alloc ?_ _)); exact BK140.out⟩, ⟨by repeat (first | (with_reducible first | exact HB.out | apply below_alloc | apply pw_below_drewN | apply below_drew1 | refine below_set ?_ GE132.out | refine below_set ?_ GE135.out | refine below_set ?_ GE140.out) | exact HB.out)⟩⟩
                                  · rw [if_neg c91] at H
                                    exact absurd H (by simp)
                              · rw [if_neg c80] at H
                                have c80b0 : (((rd_L5 t151 x24_4).length : Int) == 2) = false := beq_eq_false_iff_ne.mpr c80
                                have c80b1 : (((rd_L5 t151 x24_4).length : Int) != 2) = true := bne_iff_ne.mpr c80
                                obtain rfl := Option.some.inj H
                                obtain ⟨Ao93, co93, eo93⟩ := Kd.S_slice HO_19.out
                                subst eo93
                                have p159 : 0 ≤ (x24_4 : Int) := of_decide_eq_true (by first | (with_reducible assumption) | assumption)
                                have q159 : x24_4 < (t151.length : Int) := of_decide_eq_true (by first | (with_reducible assumption) | assumption)
                                obtain ⟨ad159, A159_0, c159_0, e159, hx159_0, hl159_0, hi159_0⟩ := at_L5 (Kd.S_reads' HO_19.out).2.2 x24_4 p159 q159
                                cases e159
                                obtain ⟨ce159, hce159, hMe159, hcc159⟩ := Kd.S_get HO_19.out [] x24_4 p159 (by first | exact q159 | exact of_decide_eq_true (by first | (with_reducible assumption) | assumption) | (have e_ := (Kd.S_reads' HO_19.out).1; omega))
                                obtain ⟨ve159_0, rfl, ge159_0⟩ := hMe159
                                have hv159_0 := hcc159 0 _ rfl
                                rw [Nat.add_zero, show ((Kd.slice 2 (Kd.int .i64))).sz = 1 from rfl, Nat.mul_one] at hv159_0
                                replace hv159_0 := Option.some.inj (hv159_0.symm.trans hx159_0)
                                rw [hv159_0] at ge159_0
                                have HL159_0 := Aside0.mk (show Kd.R (Kd.int .i64) 2 _ _ _ _ (rd_L5 t151 x24_4) from ge159_0)
                                clear hv159_0 ge159_0
                                clear hcc159 hce159
                                have HR159_0 := Aside0.mk hi159_0
                                have HC159_0 := Aside0.mk hl159_0
                                clear hi159_0 hl159_0
                                replace p159 := eq_true p159
                                replace q159 := eq_true q159
                                go_wp2
                                repeat (go_quiet (fail); try go_wp2)
                                go_ret
                                exact ⟨by first | rfl | (simp [errW_none, errW_some] <;> rfl) | (simp [*, errW_none, errW_some] <;> rfl), by repeat (first | (with_reducible first | exact HB.out | apply below_alloc | apply pw_below_drewN | apply below_drew1 | refine below_set ?_ GE132.out | refine below_set ?_ GE135.out | refine below_set ?_ GE140.out) | exact HB.out)⟩
                            · rw [if_neg c79] at H
                              exact absurd H (by simp)
                          · rw [if_neg c78] at H
                            have c78b0 : decide (x24_4 < (t151.length : Int)) = false := decide_eq_false c78
                            clear c78
                            have H' := Aside0.mk H
                            clear H
                            obtain ⟨Ao94, co94, eo94⟩ := Kd.S_slice HO_19.out
                            subst eo94
                            go_wp2
                            repeat (go_quiet (fail); try go_wp2)
                            go_loopg [25] k4 (fun kq v25 w' => ∃ (x25_5 : Int), v25 = .int .i64 x25_5 ∧ Aside0 (laws_FnSpeeds.l2 kq t146 t155 x23_4 x25_5 (wrap64 (1 + t130)) (wrap64 (1 + t131)) (wrap64 (1 + t133)) (wrap64 (1 + t134)) = some r) ∧ Aside0 (kq ≤ k4) ∧ Aside0 (Kd.R (Kd.int .i64) 2 w' w.heap.size (fun _ => True) v156 t155) ∧ Aside0 (w'.heap[gb132]? = some (.cells #[.int .i64 (wrap64 (1 + t130)), .int .i64 (wrap64 (1 + t131))] 26 (0, 0))) ∧ Aside0 (w'.heap[gb135]? = some (.cells #[.int .i64 (wrap64 (1 + t133)), .int .i64 (wrap64 (1 + t134))] 26 (0, 0))) ∧ Aside0 (w'.heap[gb140]? = some (.cells #[.int .i64 (wrap64 (1 + t133)), .int .i64 (wrap64 (1 + t131))] 26 (0, 0))) ∧ Aside0 (Below w.heap.size w w'))
                            case atStart => exact ⟨(0), (by first | rfl | (simp; done) | (simp [*]; done)), H', ⟨Nat.le_refl _⟩, ⟨by (with_reducible repeat (first | apply Kd.R_alloc | apply Kd.R_drewN | apply Kd.R_drew)); exact HO_21.out⟩, ⟨by (with_reducible repeat (first | refine blk_drewN ?_ _ | refine blk_drew ?_ | refine blk_alloc ?_ _)); exact BK132.out⟩, ⟨by (with_reducible repeat (first | refine blk_drewN ?_ _ | refine blk_drew ?_ | refine blk_alloc ?_ _)); exact BK135.out⟩, ⟨by (with_reducible repeat (first | refine blk_drewN ?_ _ | refine blk_drew ?_ | refine blk_alloc ?_ _)); exact BK140.out⟩, ⟨by repeat (first | (with_reducible first | exact HB.out | apply below_alloc | apply pw_below_drewN | apply below_drew1 | refine below_set ?_ GE132.out | refine below_set ?_ GE135.out | refine below_set ?_ GE140.out) | exact HB.out)⟩⟩
                            case round => as_aux_lemma =>
                              clear H'
                              try clear c1
                              try clear p1
                              try clear q1
                              try clear hx1
                              try clear qi1
                              try clear c2
                              try clear p2
                              try clear c3
                              try clear c4
                              try clear c6
                              try clear p6
                              try clear c7
                              try clear c8
                              try clear c9
                              try clear c15
                              try clear p15
                              try clear q15
                              try clear hx15
                              try clear c16
                              try clear p16
                              try clear q16
                              try clear hx16
                              try clear qi16
                              try clear c25
                              try clear c26
                              try clear c32
                              try clear c32b0
                              try clear c33
                              try clear c33b0
                              try clear c33b1
                              try clear c35
                              try clear c35b0
                              try clear c35b1
                              try clear c36
                              try clear c36b0
                              try clear c36b1
                              try clear c37
                              try clear c37b0
                              try clear c37b1
                              try clear c38
                              try clear c38b0
                              try clear c39
                              try clear c39b0
                              try clear c39b1
                              try clear c40
                              try clear c45
                              try clear c46
                              try clear c48
                              try clear c62
                              try clear c62b0
                              try clear c62b1
                              try clear c63
                              try clear c63b0
                              try clear c63b1
                              try clear c64
                              try clear c64b0
                              try clear c64b1
                              try clear p64
                              try clear c65
                              try clear c65b0
                              try clear c65b1
                              try clear c67
                              try clear c68
                              try clear c71
                              try clear c74
                              try clear c75
                              try clear c77
                              try clear c78
                              try clear c78b0
                              try clear c79
                              try clear c79b0
                              try clear c80
                              try clear c80b0
                              try clear c80b1
                              try clear c81
                              try clear c81b0
                              try clear c82
                              try clear c82b0
                              try clear c82b1
                              try clear c84
                              try clear c84b0
                              try clear c85
                              try clear c85b0
                              try clear c86
                              try clear c86b0
                              try clear c86b1
                              try clear c87
                              try clear c87b0
                              try clear c89
                              try clear c89b0
                              try clear c89b1
                              try clear c91
                              try clear c91b0
                              try clear c91b1
                              try clear hcz13_0
                              try clear hcz13_1
                              try clear hcz16_0
                              try clear hcz16_1
                              try clear hcz17_0
                              try clear hcz17_1
                              try clear hcz19_0
                              try clear hcz19_1
                              try clear hcz20_0
                              try clear hcz20_1
                              try clear hcz22_0
                              try clear hcz22_1
                              try clear hcz23_0
                              try clear hcz23_1
                              try clear hcz27_0
                              try clear hcz27_1
                              try clear hcz28_0
                              try clear hcz28_1
                              try clear hcz30_0
                              try clear hcz30_1
                              try clear hcz31_0
                              try clear hcz31_1
                              try clear hcz47_0
                              try clear hcz47_1
                              try clear hcz49_0
                              try clear hcz49_1
                              try clear hcz54_0
                              try clear hcz54_1
                              try clear hcz55_0
                              try clear hcz55_1
                              try clear hcz60_0
                              try clear hcz60_1
                              try clear hcz69_0
                              try clear hcz69_1
                              try clear hcz72_0
                              try clear hcz72_1
                              try clear hcz76_0
                              try clear hcz76_1
                              try clear hfz13_0
                              try clear hfz13_1
                              try clear hfz16_0
                              try clear hfz16_1
                              try clear hfz17_0
                              try clear hfz17_1
                              try clear hfz19_0
                              try clear hfz19_1
                              try clear hfz20_0
                              try clear hfz20_1
                              try clear hfz22_0
                              try clear hfz22_1
                              try clear hfz23_0
                              try clear hfz23_1
                              try clear hfz27_0
                              try clear hfz27_1
                              try clear hfz28_0
                              try clear hfz28_1
                              try clear hfz30_0
                              try clear hfz30_1
                              try clear hfz31_0
                              try clear hfz31_1
                              try clear hfz47_0
                              try clear hfz47_1
                              try clear hfz49_0
                              try clear hfz49_1
                              try clear hfz54_0
                              try clear hfz54_1
                              try clear hfz55_0
                              try clear hfz55_1
                              try clear hfz60_0
                              try clear hfz60_1
                              try clear hfz69_0
                              try clear hfz69_1
                              try clear hfz72_0
                              try clear hfz72_1
                              try clear hfz76_0
                              try clear hfz76_1
                              try clear hx159_0
                              try clear hx160_0
                              try clear hx161_0
                              try clear hx162_0
                              try clear hx163_0
                              try clear hx164_0
                              try clear hx165_0
                              try clear hx166_0
                              try clear hx167_0
                              try clear p159
                              try clear p160
                              try clear p161
                              try clear p162
                              try clear p163
                              try clear p164
                              try clear p165
                              try clear p166
                              try clear p167
                              try clear p2
                              try clear p6
                              try clear p64
                              try clear q159
                              try clear q160
                              try clear q161
                              try clear q162
                              try clear q163
                              try clear q164
                              try clear q165
                              try clear q166
                              try clear q167
                              obtain ⟨x25_5, rfl, HA, HK5, HO_21, BK132, BK135, BK140, HB⟩ := hrel
                              cases gk with
                              | zero => exact absurd HA.out (by simp [laws_FnSpeeds.l2])
                              | succ k5 =>
                                have H := HA.out
                                clear HA
                                simp only [laws_FnSpeeds.l2] at H
                                by_cases c95 : x25_5 < (wrap64 (1 + t130))
                                · rw [if_pos c95] at H
                                  have c95b0 : decide (x25_5 < (wrap64 (1 + t130))) = true := decide_eq_true c95
                                  clear c95
                                  by_cases c96 : 0 ≤ x25_5
                                  · rw [if_pos c96] at H
                                    have c96b0 : decide (0 ≤ x25_5) = true := decide_eq_true c96
                                    clear c96
                                    by_cases c97 : x25_5 < (t155.length : Int)
                                    · rw [if_pos c97] at H
                                      have c97b0 : decide (x25_5 < (t155.length : Int)) = true := decide_eq_true c97
                                      clear c97
                                      by_cases c98 : (wrap64 ((rd t155 x25_5) * (wrap64 (1 + t130)))) = (wrap64 ((wrap64 (x25_5 * (wrap64 (1 + t131)))) * t146))
                                      · rw [if_pos c98] at H
                                        have c98b0 : ((wrap64 ((rd t155 x25_5) * (wrap64 (1 + t130)))) == (wrap64 ((wrap64 (x25_5 * (wrap64 (1 + t131)))) * t146))) = true := beq_iff_eq.mpr c98
                                        have c98b1 : ((wrap64 ((rd t155 x25_5) * (wrap64 (1 + t130)))) != (wrap64 ((wrap64 (x25_5 * (wrap64 (1 + t131)))) * t146))) = false := bne_eq_false_iff_eq.mpr c98
                                        clear c98
                                        have H' := Aside0.mk H
                                        clear H
                                        have hnb99 := NB132_135.out
                                        have hnc99 := NB135_132.out
                                        have hnb100 := NB132_140.out
                                        have hnc100 := NB140_132.out
                                        have hcz101_0 : wr.cell? ⟨gb132, 0, none⟩ = some (.int .i64 (wrap64 (1 + t130))) := (blk_cell BK132.out 0).trans rfl
                                        have hcz101_1 : wr.cell? ⟨gb132, 1, none⟩ = some (.int .i64 (wrap64 (1 + t131))) := (blk_cell BK132.out 1).trans rfl
                                        have hfz101_0 := blk_frozen BK132.out 0
                                        have hfz101_1 := blk_frozen BK132.out 1
                                        obtain ⟨Ao102, co102, eo102⟩ := Kd.R_slice HO_21.out
                                        subst eo102
                                        have p168 : 0 ≤ (x25_5 : Int) := of_decide_eq_true (by first | (with_reducible assumption) | assumption)
                                        have q168 : x25_5 < (t155.length : Int) := of_decide_eq_true (by first | (with_reducible assumption) | assumption)
                                        obtain ⟨ad168, e168, hx168_0⟩ := Kd.at_int (Kd.R_reads' HO_21.out).2.2 x25_5 p168 q168
                                        cases e168
                                        replace p168 := eq_true p168
                                        replace q168 := eq_true q168
                                        go_wp2
                                        repeat (go_quiet (fail); try go_wp2)
                                        go_roundg k5
                                        case measure => have := HK1.out; have := HJ33.out; have := HJ43.out; have := HK4.out; have := HK5.out; omega
                                        case rel => exact ⟨(wrap64 (x25_5 + 1)), (by first | rfl | (simp; done) | (simp [*]; done)), H', ⟨by have := HK1.out; have := HJ33.out; have := HJ43.out; have := HK4.out; have := HK5.out; omega⟩, ⟨by (with_reducible repeat (first | apply Kd.R_alloc | apply Kd.R_drewN | apply Kd.R_drew)); exact HO_21.out⟩, ⟨by (with_reducible repeat (first | refine blk_drewN ?_ _ | refine blk_drew ?_ | refine blk_alloc ?_ _)); exact BK132.out⟩, ⟨by (with_reducible repeat (first | refine blk_drewN ?_ _ | refine blk_drew ?_ | refine blk_alloc ?_ _)); exact BK135.out⟩, ⟨by (with_reducible repeat (first | refine blk_drewN ?_ _ | refine blk_drew ?_ | refine blk_alloc ?_ _)); exact BK140.out⟩, ⟨by repeat (first | (with_reducible first | exact HB.out | apply below_alloc | apply pw_below_drewN | apply below_drew1 | refine below_set ?_ GE132.out | refine below_set ?_ GE135.out | refine below_set ?_ GE140.out) | exact HB.out)⟩⟩
                                      · rw [if_neg c98] at H
                                        have c98b0 : ((wrap64 ((rd t155 x25_5) * (wrap64 (1 + t130)))) == (wrap64 ((wrap64 (x25_5 * (wrap64 (1 + t131)))) * t146))) = false := beq_eq_false_iff_ne.mpr c98
                                        have c98b1 : ((wrap64 ((rd t155 x25_5) * (wrap64 (1 + t130)))) != (wrap64 ((wrap64 (x25_5 * (wrap64 (1 + t131)))) * t146))) = true := bne_iff_ne.mpr c98
                                        obtain rfl := Option.some.inj H
                                        have hnb103 := NB132_135.out
                                        have hnc103 := NB135_132.out
                                        have hnb104 := NB132_140.out
                                        have hnc104 := NB140_132.out
                                        have hcz105_0 : wr.cell? ⟨gb132, 0, none⟩ = some (.int .i64 (wrap64 (1 + t130))) := (blk_cell BK132.out 0).trans rfl
                                        have hcz105_1 : wr.cell? ⟨gb132, 1, none⟩ = some (.int .i64 (wrap64 (1 + t131))) := (blk_cell BK132.out 1).trans rfl
                                        have hfz105_0 := blk_frozen BK132.out 0
                                        have hfz105_1 := blk_frozen BK132.out 1
                                        obtain ⟨Ao106, co106, eo106⟩ := Kd.R_slice HO_21.out
                                        subst eo106
                                        have p168 : 0 ≤ (x25_5 : Int) := of_decide_eq_true (by first | (with_reducible assumption) | assumption)
                                        have q168 : x25_5 < (t155.length : Int) := of_decide_eq_true (by first | (with_reducible assumption) | assumption)
                                        obtain ⟨ad168, e168, hx168_0⟩ := Kd.at_int (Kd.R_reads' HO_21.out).2.2 x25_5 p168 q168
                                        cases e168
                                        replace p168 := eq_true p168
                                        replace q168 := eq_true q168
                                        go_wp2
                                        repeat (go_quiet (fail); try go_wp2)
                                        go_ret
                                        exact ⟨by first | rfl | (simp [errW_none, errW_some] <;> rfl) | (simp [*, errW_none, errW_some] <;> rfl), by repeat (first | (with_reducible first | exact HB.out | apply below_alloc | apply pw_below_drewN | apply below_drew1 | refine below_set ?_ GE132.out | refine below_set ?_ GE135.out | refine below_set ?_ GE140.out) | exact HB.out)⟩
                                    · rw [if_neg c97] at H
                                      exact absurd H (by simp)
                                  · rw [if_neg c96] at H
                                    exact absurd H (by simp)
                                · rw [if_neg c95] at H
                                  have c95b0 : decide (x25_5 < (wrap64 (1 + t130))) = false := decide_eq_false c95
                                  clear c95
                                  obtain rfl := Option.some.inj H
                                  have hnb107 := NB132_135.out
                                  have hnc107 := NB135_132.out
                                  have hnb108 := NB132_140.out
                                  have hnc108 := NB140_132.out
                                  have hcz109_0 : wr.cell? ⟨gb132, 0, none⟩ = some (.int .i64 (wrap64 (1 + t130))) := (blk_cell BK132.out 0).trans rfl
                                  have hcz109_1 : wr.cell? ⟨gb132, 1, none⟩ = some (.int .i64 (wrap64 (1 + t131))) := (blk_cell BK132.out 1).trans rfl
                                  have hfz109_0 := blk_frozen BK132.out 0
                                  have hfz109_1 := blk_frozen BK132.out 1
                                  have hnb110 := NB135_140.out
                                  have hnc110 := NB140_135.out
                                  have hcz111_0 : wr.cell? ⟨gb135, 0, none⟩ = some (.int .i64 (wrap64 (1 + t133))) := (blk_cell BK135.out 0).trans rfl
                                  have hcz111_1 : wr.cell? ⟨gb135, 1, none⟩ = some (.int .i64 (wrap64 (1 + t134))) := (blk_cell BK135.out 1).trans rfl
                                  have hfz111_0 := blk_frozen BK135.out 0
                                  have hfz111_1 := blk_frozen BK135.out 1
                                  go_wp2
                                  repeat (go_quiet (fail); try go_wp2)
                                  go_ret
                                  exact ⟨by first | rfl | (simp [errW_none, errW_some] <;> rfl) | (simp [*, errW_none, errW_some] <;> rfl), by repeat (first | (with_reducible first | exact HB.out | apply below_alloc | apply pw_below_drewN | apply below_drew1 | refine below_set ?_ GE132.out | refine below_set ?_ GE135.out | refine below_set ?_ GE140.out) | exact HB.out)⟩

/-- THE ONE PURE STATEMENT of laws_FnSpeeds: yours. -/
def laws_FnSpeeds.Pure : Prop := ∀ (l0 : List Int) (l1 : List Int), l0.length ≤ maxLen → l0.length * 1 ≤ 140737488351232 → (∀ x ∈ l0, (Lit.int .u8 x).wf = true) → l1.length ≤ maxLen → l1.length * 1 ≤ 140737488351232 → (∀ x ∈ l1, (Lit.int .u8 x).wf = true) → ∃ k, laws_FnSpeeds.f k l0 l1 = some true
theorem laws_FnSpeeds.walk (P : laws_FnSpeeds.Pure) (a0 : Option Addr) (len0 cap0 : Nat) (z0 : List Int) (a1 : Option Addr) (len1 cap1 : Nat) (z1 : List Int) (w : World) (w0 : (a0 = none ∧ len0 = 0 ∧ cap0 = 0 ∧ z0 = []) ∨ ∃ x, a0 = some x ∧ len0 ≤ cap0 ∧ cap0 ≤ maxLen ∧ z0.length = cap0 ∧ (∀ i, i < z0.length → w.cell? (x.add i) = some (.int .u8 (z0.getD i 0))) ∧ ∀ n ∈ z0, (Lit.int .u8 n).wf = true) (y0 : len0 * 1 ≤ 140737488351232) (w1 : (a1 = none ∧ len1 = 0 ∧ cap1 = 0 ∧ z1 = []) ∨ ∃ x, a1 = some x ∧ len1 ≤ cap1 ∧ cap1 ≤ maxLen ∧ z1.length = cap1 ∧ (∀ i, i < z1.length → w.cell? (x.add i) = some (.int .u8 (z1.getD i 0))) ∧ ∀ n ∈ z1, (Lit.int .u8 n).wf = true) (y1 : len1 * 1 ≤ 140737488351232) :
    Calls Try.prog 3 #[.slice a0 len0 cap0, .slice a1 len1 cap1] w fun e w' => e = .returned (.bool true) ∧ Below w.heap.size w w' := by
  obtain ⟨l0, rfl, hr0, hm0, hw0, hc0⟩ := ReadsInt.ofRowC w0
  obtain ⟨l1, rfl, hr1, hm1, hw1, hc1⟩ := ReadsInt.ofRowC w1
  obtain ⟨k, h⟩ := P l0 l1 hm0 y0 hw0 hm1 y1 hw1
  refine (laws_FnSpeeds.calls k _ _ l0 _ _ l1 true w (Kd.C_of_reads (d := (0 : Int)) (h1 := fun _ => rfl) hr0) hc0 (Kd.C_of_reads (d := (0 : Int)) (h1 := fun _ => rfl) hr1) hc1 h).mono ?_
  rintro e w' ⟨rfl, hd⟩
  exact ⟨rfl, hd⟩

end Go.Proofs.Ytfnlmabpmgocmaa.PFnSpeeds
