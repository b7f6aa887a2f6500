-- written by xprint.py, a program of this repo over the kit's print; not trusted: Lean checks it
import Derived.Test.YtfledgccnaknpaaPFnExactClosedFormx0
import Derived.Test.YtfledgccnaknpaaPFnExactClosedFormx3
import Derived.Test.YtfledgccnaknpaaPFnExactClosedFormx5
namespace Go.Proofs.Ytfledgccnaknpaa.PFnExactClosedForm
open Go.RowKit Go.Proofs.YtfledgccnaknpaaW.PrintWords Go.Proofs.YtfledgccnaknpaaW.PrintLast Go.Proofs.YtfledgccnaknpaaW.PrintMore
attribute [local go_sem] max2_int min2_int max_two min_two max_three min_three max_four min_four   -- for this text's walks alone
set_option linter.unusedVariables false
set_option linter.unusedSimpArgs false

/-! ### spec_l18Composed: function 183 -/
def spec_l18Composed.l0 : Nat → List (S103) → List Int → Int → Option (Bool)
 | 0, _, _, _ => none
 | k + 1, x0, x1, x5 => if x5 < (x1.length : Int) then (if 0 ≤ x5 then ((spec_l00In.f (rd x1 x5) 0 (wrap64 ((x0.length : Int) - 1))).bind fun t152 => (if t152 = true then (spec_l18Composed.l0 k x0 x1 (wrap64 (x5 + 1))) else (some false))) else (none)) else (some (decide ((x1.length : Int) ≤ 64)))
def spec_l18Composed.f (k : Nat) (l0 : List (S103)) (l1 : List Int) : Option (Bool) := spec_l18Composed.l0 k l0 l1 0
theorem spec_l18Composed.mono_l : ∀ k, (∀ y0 y1 y2, LeO (spec_l18Composed.l0 k y0 y1 y2) (spec_l18Composed.l0 (k + 1) y0 y1 y2))
 | 0 => fun _ _ _ r h => by simp [spec_l18Composed.l0] at h
 | k + 1 => by
  have ih0 := spec_l18Composed.mono_l k
  ·intro y0 y1 y2
   unfold spec_l18Composed.l0
   repeat' first
   | (with_reducible exact ih0 _ _ _)
   | (with_reducible exact LeO.refl _)
   | (with_reducible exact LeO.none _)
   | (with_reducible refine LeO.ite ?_ ?_)
   | (with_reducible refine LeO.bind ?_ (fun _ => ?_))
   | exact ih0 _ _ _
   | exact LeO.none _
   | refine LeO.ite ?_ ?_
   | refine LeO.bind ?_ (fun _ => ?_)
theorem spec_l18Composed.mono : ∀ a0 a1 k, LeO (spec_l18Composed.f k a0 a1) (spec_l18Composed.f (k + 1) a0 a1) := by
 intro a0 a1 k
 have ih0 := spec_l18Composed.mono_l k
 unfold spec_l18Composed.f
 repeat' first
   | (with_reducible exact ih0 _ _ _)
   | (with_reducible exact LeO.refl _)
   | (with_reducible exact LeO.none _)
   | (with_reducible refine LeO.ite ?_ ?_)
   | (with_reducible refine LeO.bind ?_ (fun _ => ?_))
   | exact ih0 _ _ _
   | exact LeO.none _
   | refine LeO.ite ?_ ?_
   | refine LeO.bind ?_ (fun _ => ?_)
set_option maxHeartbeats 8000000 in
set_option maxRecDepth 100000 in
theorem spec_l18Composed.calls (k : Nat) (A0 : Option Addr) (c0 : Nat) (l0 : List (S103)) (A1 : Option Addr) (c1 : Nat) (l1 : List Int) (r : Bool) (w : World) (hr0 : Kd.C k103 w A0 l0.length l0) (hc0 : l0.length ≤ c0) (hr1 : Kd.C (Kd.int .i64) w A1 l1.length l1) (hc1 : l1.length ≤ c1) (h : spec_l18Composed.f k l0 l1 = some r) :
  Calls Try.prog 183 #[.slice A0 l0.length c0, .slice A1 l1.length c1] w fun e w' => e = .returned (.bool r) ∧ Drawn0 w w' := by
 have HR0 := Aside0.mk hr0
 have HC0 := Aside0.mk hc0
 clear hr0 hc0
 have HR1 := Aside0.mk hr1
 have HC1 := Aside0.mk hc1
 clear hr1 hc1
 have H : (spec_l18Composed.l0 k l0 l1 0) = some r := h
 clear h
 have H' := Aside0.mk H
 clear H
 go_enter Try.func183, Try.ntmps183
 go_wp2
 go_loopg [5] k (fun kq v5 w' => ∃ (x5_1 : Int), v5 = .int .i64 x5_1 ∧ Aside0 (spec_l18Composed.l0 kq l0 l1 x5_1 = some r) ∧ Aside0 (kq ≤ k) ∧ Drawn0 w w')
 case atStart => exact ⟨(0), (by first | rfl | (simp; done) | (simp [*]; done)), H', ⟨Nat.le_refl _⟩, by repeat (first | exact Drawn0.refl _ | apply Drawn0.step)⟩
 case round =>
  clear H'
  try clear c1
  try clear p2
  obtain ⟨x5_1, rfl, HA, HK1, ⟨m1, rfl⟩⟩ := hrel
  cases gk with
  | zero => exact absurd HA.out (by simp [spec_l18Composed.l0])
  | succ k1 =>
   have H := HA.out
   clear HA
   simp only [spec_l18Composed.l0] at H
   by_cases c3 : x5_1 < (l1.length : Int)
   rotate_left
   ·rw [if_neg c3] at H
    have c3b0 : decide (x5_1 < (l1.length : Int)) = false := decide_eq_false c3
    clear c3
    obtain rfl := Option.some.inj H
    go_wp2
    go_ret
    exact ⟨by first | rfl | (simp; done) | (simp [*]; done), by repeat (first | exact Drawn0.refl _ | apply Drawn0.step)⟩
   rw [if_pos c3] at H
   have c3b0 : decide (x5_1 < (l1.length : Int)) = true := decide_eq_true c3
   clear c3
   by_cases c4 : 0 ≤ x5_1
   rotate_left
   ·rw [if_neg c4] at H
    exact absurd H (by simp)
   rw [if_pos c4] at H
   have c4b0 : decide (0 ≤ x5_1) = true := decide_eq_true c4
   clear c4
   replace H := Option.bind_eq_some_iff.mp H
   obtain ⟨t152, A50, H⟩ := H
   replace H : (if t152 = true then (spec_l18Composed.l0 k1 l0 l1 (wrap64 (x5_1 + 1))) else (some false)) = some r := H
   have A5 := Aside0.mk A50
   clear A50
   by_cases c6 : t152 = true
   rotate_left
   ·replace c6 := Bool.eq_false_iff.mpr c6
    subst c6
    have H1 : (some false) = some r := by rw [if_neg (show ¬ (false = true) by decide)] at H; exact H
    clear H
    have H := H1
    clear H1
    obtain rfl := Option.some.inj H
    have p151 : 0 ≤ (x5_1 : Int) := of_decide_eq_true (by assumption)
    have q151 : x5_1 < (l1.length : Int) := of_decide_eq_true (by assumption)
    obtain ⟨ad151, e151, hx151_0⟩ := Kd.at_int HR1.out x5_1 p151 q151
    cases e151
    replace p151 := eq_true p151
    replace q151 := eq_true q151
    go_wp2_with (first | ((with_reducible refine gate_callee (f := 155) rfl ?_); refine goesL_ (some 19) rfl rfl Try.func155 (by kernel_rfl) rfl #[.int .i64 (rd l1 x5_1), .int .i64 0, .int .i64 (wrap64 ((l0.length : Int) - 1))] rfl (by (try simp only [List.map_toArray, List.map_cons, List.map_nil]); first | done | rfl) ?_; (with_reducible refine (spec_l00In.calls (rd l1 x5_1) 0 (wrap64 ((l0.length : Int) - 1)) false _ A5.out).mono ?_); rintro e w' ⟨rfl, ⟨nd, rfl⟩⟩; refine ⟨_, rfl, ?_⟩))
    go_ret
    exact ⟨by first | rfl | (simp; done) | (simp [*]; done), by repeat (first | exact Drawn0.refl _ | apply Drawn0.step)⟩
   subst c6
   have H1 : (spec_l18Composed.l0 k1 l0 l1 (wrap64 (x5_1 + 1))) = some r := by rw [if_pos rfl] at H; exact H
   clear H
   have H := H1
   clear H1
   have H' := Aside0.mk H
   clear H
   have p151 : 0 ≤ (x5_1 : Int) := of_decide_eq_true (by assumption)
   have q151 : x5_1 < (l1.length : Int) := of_decide_eq_true (by assumption)
   obtain ⟨ad151, e151, hx151_0⟩ := Kd.at_int HR1.out x5_1 p151 q151
   cases e151
   replace p151 := eq_true p151
   replace q151 := eq_true q151
   go_wp2_with (first | ((with_reducible refine gate_callee (f := 155) rfl ?_); refine goesL_ (some 19) rfl rfl Try.func155 (by kernel_rfl) rfl #[.int .i64 (rd l1 x5_1), .int .i64 0, .int .i64 (wrap64 ((l0.length : Int) - 1))] rfl (by (try simp only [List.map_toArray, List.map_cons, List.map_nil]); first | done | rfl) ?_; (with_reducible refine (spec_l00In.calls (rd l1 x5_1) 0 (wrap64 ((l0.length : Int) - 1)) true _ A5.out).mono ?_); rintro e w' ⟨rfl, ⟨nd, rfl⟩⟩; refine ⟨_, rfl, ?_⟩))
   go_roundg k1
   case measure => have := HK1.out; omega
   case rel => exact ⟨(wrap64 (x5_1 + 1)), (by first | rfl | (simp; done) | (simp [*]; done)), H', ⟨by have := HK1.out; omega⟩, by repeat (first | exact Drawn0.refl _ | apply Drawn0.step)⟩

/-! ### spec_l20Theme: function 171 -/
def spec_l20Theme.f (k : Nat) (l0 : List (S103)) (l1 : List Int) : Option (Bool) := (spec_l18Composed.f k l0 l1).bind fun t153 => (if t153 = true then (if (l1.length : Int) ≥ 1 then (some (decide ((l1.length : Int) ≤ 32))) else (some false)) else (some false))
theorem spec_l20Theme.mono : ∀ a0 a1 k, LeO (spec_l20Theme.f k a0 a1) (spec_l20Theme.f (k + 1) a0 a1) := by
 intro a0 a1 k
 unfold spec_l20Theme.f
 repeat' first
   | (with_reducible exact spec_l18Composed.mono _ _ _)
   | (with_reducible exact LeO.refl _)
   | (with_reducible exact LeO.none _)
   | (with_reducible refine LeO.ite ?_ ?_)
   | (with_reducible refine LeO.bind ?_ (fun _ => ?_))
   | exact spec_l18Composed.mono _ _ _
   | exact LeO.none _
   | refine LeO.ite ?_ ?_
   | refine LeO.bind ?_ (fun _ => ?_)
set_option maxHeartbeats 8000000 in
set_option maxRecDepth 100000 in
theorem spec_l20Theme.calls (k : Nat) (A0 : Option Addr) (c0 : Nat) (l0 : List (S103)) (A1 : Option Addr) (c1 : Nat) (l1 : List Int) (r : Bool) (w : World) (hr0 : Kd.C k103 w A0 l0.length l0) (hc0 : l0.length ≤ c0) (hr1 : Kd.C (Kd.int .i64) w A1 l1.length l1) (hc1 : l1.length ≤ c1) (h : spec_l20Theme.f k l0 l1 = some r) :
  Calls Try.prog 171 #[.slice A0 l0.length c0, .slice A1 l1.length c1] w fun e w' => e = .returned (.bool r) ∧ Drawn0 w w' := by
 have HR0 := Aside0.mk hr0
 have HC0 := Aside0.mk hc0
 clear hr0 hc0
 have HR1 := Aside0.mk hr1
 have HC1 := Aside0.mk hc1
 clear hr1 hc1
 have H : ((spec_l18Composed.f k l0 l1).bind fun t153 => (if t153 = true then (if (l1.length : Int) ≥ 1 then (some (decide ((l1.length : Int) ≤ 32))) else (some false)) else (some false))) = some r := h
 clear h
 replace H := Option.bind_eq_some_iff.mp H
 obtain ⟨t153, A30, H⟩ := H
 replace H : (if t153 = true then (if (l1.length : Int) ≥ 1 then (some (decide ((l1.length : Int) ≤ 32))) else (some false)) else (some false)) = some r := H
 have A3 := Aside0.mk A30
 clear A30
 by_cases c4 : t153 = true
 rotate_left
 ·replace c4 := Bool.eq_false_iff.mpr c4
  subst c4
  have H1 : (some false) = some r := by rw [if_neg (show ¬ (false = true) by decide)] at H; exact H
  clear H
  have H := H1
  clear H1
  obtain rfl := Option.some.inj H
  go_enter Try.func171, Try.ntmps171
  go_wp2_with (first | ((with_reducible refine gate_callee (f := 183) rfl ?_); refine goesL_ (some 7) rfl rfl Try.func183 (by kernel_rfl) rfl #[.slice A0 l0.length c0, .slice A1 l1.length c1] rfl (by (try simp only [List.map_toArray, List.map_cons, List.map_nil]); first | done | rfl) ?_; (with_reducible refine (spec_l18Composed.calls k _ _ l0 _ _ l1 false _ ?side1 ?side2 ?side3 ?side4 A3.out).mono ?_); (case side1 => exact HR0.out); (case side2 => exact HC0.out); (case side3 => exact HR1.out); (case side4 => exact HC1.out); rintro e w' ⟨rfl, ⟨nd, rfl⟩⟩; refine ⟨_, rfl, ?_⟩))
  go_ret
  exact ⟨by first | rfl | (simp; done) | (simp [*]; done), by repeat (first | exact Drawn0.refl _ | apply Drawn0.step)⟩
 subst c4
 have H1 : (if (l1.length : Int) ≥ 1 then (some (decide ((l1.length : Int) ≤ 32))) else (some false)) = some r := by rw [if_pos rfl] at H; exact H
 clear H
 have H := H1
 clear H1
 by_cases c5 : (l1.length : Int) ≥ 1
 rotate_left
 ·rw [if_neg c5] at H
  have c5b0 : decide (1 ≤ (l1.length : Int)) = false := decide_eq_false c5
  have c5b1 : decide (1 ≤ l1.length) = false := decide_eq_false (by omega)
  clear c5
  obtain rfl := Option.some.inj H
  go_enter Try.func171, Try.ntmps171
  go_wp2_with (first | ((with_reducible refine gate_callee (f := 183) rfl ?_); refine goesL_ (some 7) rfl rfl Try.func183 (by kernel_rfl) rfl #[.slice A0 l0.length c0, .slice A1 l1.length c1] rfl (by (try simp only [List.map_toArray, List.map_cons, List.map_nil]); first | done | rfl) ?_; (with_reducible refine (spec_l18Composed.calls k _ _ l0 _ _ l1 true _ ?side1 ?side2 ?side3 ?side4 A3.out).mono ?_); (case side1 => exact HR0.out); (case side2 => exact HC0.out); (case side3 => exact HR1.out); (case side4 => exact HC1.out); rintro e w' ⟨rfl, ⟨nd, rfl⟩⟩; refine ⟨_, rfl, ?_⟩))
  go_ret
  exact ⟨by first | rfl | (simp; done) | (simp [*]; done), by repeat (first | exact Drawn0.refl _ | apply Drawn0.step)⟩
 rw [if_pos c5] at H
 have c5b0 : decide (1 ≤ (l1.length : Int)) = true := decide_eq_true c5
 have c5b1 : decide (1 ≤ l1.length) = true := decide_eq_true (by omega)
 clear c5
 obtain rfl := Option.some.inj H
 go_enter Try.func171, Try.ntmps171
 go_wp2_with (first | ((with_reducible refine gate_callee (f := 183) rfl ?_); refine goesL_ (some 7) rfl rfl Try.func183 (by kernel_rfl) rfl #[.slice A0 l0.length c0, .slice A1 l1.length c1] rfl (by (try simp only [List.map_toArray, List.map_cons, List.map_nil]); first | done | rfl) ?_; (with_reducible refine (spec_l18Composed.calls k _ _ l0 _ _ l1 true _ ?side1 ?side2 ?side3 ?side4 A3.out).mono ?_); (case side1 => exact HR0.out); (case side2 => exact HC0.out); (case side3 => exact HR1.out); (case side4 => exact HC1.out); rintro e w' ⟨rfl, ⟨nd, rfl⟩⟩; refine ⟨_, rfl, ?_⟩))
 go_ret
 exact ⟨by first | rfl | (simp; done) | (simp [*]; done), by repeat (first | exact Drawn0.refl _ | apply Drawn0.step)⟩

/-! ### spec_l20Ask: function 88 -/
def spec_l20Ask.f (k : Nat) (l0 : List (S103)) (l1 : List Int) : Option (Int) := (spec_l18Ok.f k l0).bind fun t154 => (if t154 = true then ((spec_l20Theme.f k l0 l1).bind fun t155 => (if t155 = true then (some 0) else (some 7))) else (some 1))
theorem spec_l20Ask.mono : ∀ a0 a1 k, LeO (spec_l20Ask.f k a0 a1) (spec_l20Ask.f (k + 1) a0 a1) := by
 intro a0 a1 k
 unfold spec_l20Ask.f
 repeat' first
   | (with_reducible exact spec_l18Ok.mono _ _)
   | (with_reducible exact spec_l20Theme.mono _ _ _)
   | (with_reducible exact LeO.refl _)
   | (with_reducible exact LeO.none _)
   | (with_reducible refine LeO.ite ?_ ?_)
   | (with_reducible refine LeO.bind ?_ (fun _ => ?_))
   | exact spec_l18Ok.mono _ _
   | exact spec_l20Theme.mono _ _ _
   | exact LeO.none _
   | refine LeO.ite ?_ ?_
   | refine LeO.bind ?_ (fun _ => ?_)
set_option maxHeartbeats 8000000 in
set_option maxRecDepth 100000 in
theorem spec_l20Ask.calls (k : Nat) (A0 : Option Addr) (c0 : Nat) (l0 : List (S103)) (A1 : Option Addr) (c1 : Nat) (l1 : List Int) (r : Int) (w : World) (hr0 : Kd.C k103 w A0 l0.length l0) (hc0 : l0.length ≤ c0) (hr1 : Kd.C (Kd.int .i64) w A1 l1.length l1) (hc1 : l1.length ≤ c1) (h : spec_l20Ask.f k l0 l1 = some r) :
  Calls Try.prog 88 #[.slice A0 l0.length c0, .slice A1 l1.length c1] w fun e w' => e = .returned (.int .i64 r) ∧ Below w.heap.size w w' := by
 have HR0 := Aside0.mk hr0
 have HC0 := Aside0.mk hc0
 clear hr0 hc0
 have HR1 := Aside0.mk hr1
 have HC1 := Aside0.mk hc1
 clear hr1 hc1
 have HB := Aside0.mk (Below.refl w.heap.size w)
 have H : ((spec_l18Ok.f k l0).bind fun t154 => (if t154 = true then ((spec_l20Theme.f k l0 l1).bind fun t155 => (if t155 = true then (some 0) else (some 7))) else (some 1))) = some r := h
 clear h
 replace H := Option.bind_eq_some_iff.mp H
 obtain ⟨t154, A30, H⟩ := H
 replace H : (if t154 = true then ((spec_l20Theme.f k l0 l1).bind fun t155 => (if t155 = true then (some 0) else (some 7))) else (some 1)) = some r := H
 have A3 := Aside0.mk A30
 clear A30
 by_cases c4 : t154 = true
 rotate_left
 ·replace c4 := Bool.eq_false_iff.mpr c4
  subst c4
  have H1 : (some 1) = some r := by rw [if_neg (show ¬ (false = true) by decide)] at H; exact H
  clear H
  have H := H1
  clear H1
  obtain rfl := Option.some.inj H
  go_enter Try.func88, Try.ntmps88
  go_wp2_with (first | ((with_reducible refine gate_callee (f := 170) rfl ?_); refine goesL_ (some 6) rfl rfl Try.func170 (by kernel_rfl) rfl #[.slice A0 l0.length c0] rfl (by (try simp only [List.map_toArray, List.map_cons, List.map_nil]); first | done | rfl) ?_; (with_reducible refine (spec_l18Ok.calls k _ _ l0 false _ ?side1 ?side2 A3.out).mono ?_); (case side1 => exact HR0.out); (case side2 => exact HC0.out); rintro e w9 ⟨rfl, hb⟩; refine ⟨_, rfl, ?_⟩; have n0_ := Aside0.mk (below_step (by repeat (first | exact HB.out | apply below_alloc | apply pw_below_drewN | apply below_drew1)) hb); clear HB; have HB := n0_; clear n0_; (try clear hb); (try clear hb2); (try clear hk); (try clear hi)))
  go_ret
  exact ⟨by first | rfl | (simp [errW_none, errW_some] <;> rfl) | (simp [*, errW_none, errW_some] <;> rfl), by repeat (first | exact HB.out | apply below_alloc | apply pw_below_drewN | apply below_drew1)⟩
 subst c4
 have H1 : ((spec_l20Theme.f k l0 l1).bind fun t155 => (if t155 = true then (some 0) else (some 7))) = some r := by rw [if_pos rfl] at H; exact H
 clear H
 have H := H1
 clear H1
 replace H := Option.bind_eq_some_iff.mp H
 obtain ⟨t155, A50, H⟩ := H
 replace H : (if t155 = true then (some 0) else (some 7)) = some r := H
 have A5 := Aside0.mk A50
 clear A50
 by_cases c6 : t155 = true
 rotate_left
 ·replace c6 := Bool.eq_false_iff.mpr c6
  subst c6
  have H1 : (some 7) = some r := by rw [if_neg (show ¬ (false = true) by decide)] at H; exact H
  clear H
  have H := H1
  clear H1
  obtain rfl := Option.some.inj H
  go_enter Try.func88, Try.ntmps88
  go_wp2_with (first | ((with_reducible refine gate_callee (f := 170) rfl ?_); refine goesL_ (some 6) rfl rfl Try.func170 (by kernel_rfl) rfl #[.slice A0 l0.length c0] rfl (by (try simp only [List.map_toArray, List.map_cons, List.map_nil]); first | done | rfl) ?_; (with_reducible refine (spec_l18Ok.calls k _ _ l0 true _ ?side1 ?side2 A3.out).mono ?_); (case side1 => exact HR0.out); (case side2 => exact HC0.out); rintro e w8 ⟨rfl, hb⟩; refine ⟨_, rfl, ?_⟩; have n0_ := Aside0.mk (below_step (by repeat (first | exact HB.out | apply below_alloc | apply pw_below_drewN | apply below_drew1)) hb); clear HB; have HB := n0_; clear n0_; (try clear hb); (try clear hb2); (try clear hk); (try clear hi)) | ((with_reducible refine gate_callee (f := 171) rfl ?_); refine goesL_ (some 10) rfl rfl Try.func171 (by kernel_rfl) rfl #[.slice A0 l0.length c0, .slice A1 l1.length c1] rfl (by (try simp only [List.map_toArray, List.map_cons, List.map_nil]); first | done | rfl) ?_; (with_reducible refine (spec_l20Theme.calls k _ _ l0 _ _ l1 false _ ?side1 ?side2 ?side3 ?side4 A5.out).mono ?_); (case side1 => exact (Kd.C_below HR0.out HB.out)); (case side2 => exact HC0.out); (case side3 => exact (Kd.C_below HR1.out HB.out)); (case side4 => exact HC1.out); rintro e w' ⟨rfl, ⟨nd, rfl⟩⟩; refine ⟨_, rfl, ?_⟩))
  go_ret
  exact ⟨by first | rfl | (simp [errW_none, errW_some] <;> rfl) | (simp [*, errW_none, errW_some] <;> rfl), by repeat (first | exact HB.out | apply below_alloc | apply pw_below_drewN | apply below_drew1)⟩
 subst c6
 have H1 : (some 0) = some r := by rw [if_pos rfl] at H; exact H
 clear H
 have H := H1
 clear H1
 obtain rfl := Option.some.inj H
 go_enter Try.func88, Try.ntmps88
 go_wp2_with (first | ((with_reducible refine gate_callee (f := 170) rfl ?_); refine goesL_ (some 6) rfl rfl Try.func170 (by kernel_rfl) rfl #[.slice A0 l0.length c0] rfl (by (try simp only [List.map_toArray, List.map_cons, List.map_nil]); first | done | rfl) ?_; (with_reducible refine (spec_l18Ok.calls k _ _ l0 true _ ?side1 ?side2 A3.out).mono ?_); (case side1 => exact HR0.out); (case side2 => exact HC0.out); rintro e w7 ⟨rfl, hb⟩; refine ⟨_, rfl, ?_⟩; have n0_ := Aside0.mk (below_step (by repeat (first | exact HB.out | apply below_alloc | apply pw_below_drewN | apply below_drew1)) hb); clear HB; have HB := n0_; clear n0_; (try clear hb); (try clear hb2); (try clear hk); (try clear hi)) | ((with_reducible refine gate_callee (f := 171) rfl ?_); refine goesL_ (some 10) rfl rfl Try.func171 (by kernel_rfl) rfl #[.slice A0 l0.length c0, .slice A1 l1.length c1] rfl (by (try simp only [List.map_toArray, List.map_cons, List.map_nil]); first | done | rfl) ?_; (with_reducible refine (spec_l20Theme.calls k _ _ l0 _ _ l1 true _ ?side1 ?side2 ?side3 ?side4 A5.out).mono ?_); (case side1 => exact (Kd.C_below HR0.out HB.out)); (case side2 => exact HC0.out); (case side3 => exact (Kd.C_below HR1.out HB.out)); (case side4 => exact HC1.out); rintro e w' ⟨rfl, ⟨nd, rfl⟩⟩; refine ⟨_, rfl, ?_⟩))
 go_ret
 exact ⟨by first | rfl | (simp [errW_none, errW_some] <;> rfl) | (simp [*, errW_none, errW_some] <;> rfl), by repeat (first | exact HB.out | apply below_alloc | apply pw_below_drewN | apply below_drew1)⟩

/-! ### spec_l20Pairs: function 158 -/
def spec_l20Pairs.l0 : Nat → List (S103) → List (List Int) → Int → Int → Option (Bool)
 | 0, _, _, _, _ => none
 | k + 1, x0, x1, x5, x6 => if x6 < (x1.length : Int) then (if 0 ≤ x6 then (if ((rd_L5 x1 x6).length : Int) = 2 then (if 0 < ((rd_L5 x1 x6).length : Int) then ((spec_l00In.f (rd (rd_L5 x1 x6) 0) 0 x5).bind fun t158 => (if t158 = true then (if 1 < ((rd_L5 x1 x6).length : Int) then ((spec_l00In.f (rd (rd_L5 x1 x6) 1) 0 x5).bind fun t160 => (if t160 = true then (if (rd (rd_L5 x1 x6) 0) = (rd (rd_L5 x1 x6) 1) then (some false) else (if 0 ≤ (rd (rd_L5 x1 x6) 0) then (if (rd (rd_L5 x1 x6) 0) < (x0.length : Int) then (if 0 ≤ (rd (rd_L5 x1 x6) 1) then (if (rd (rd_L5 x1 x6) 1) < (x0.length : Int) then (if ((rd_T103 x0 (rd (rd_L5 x1 x6) 0)).f2) = ((rd_T103 x0 (rd (rd_L5 x1 x6) 1)).f2) then (if x6 > 0 then (if 0 ≤ (wrap64 (x6 - 1)) then (if (wrap64 (x6 - 1)) < (x1.length : Int) then (if 0 < ((rd_L5 x1 (wrap64 (x6 - 1))).length : Int) then (if (rd (rd_L5 x1 (wrap64 (x6 - 1))) 0) ≥ (rd (rd_L5 x1 x6) 0) then (some false) else (spec_l20Pairs.l0 k x0 x1 x5 (wrap64 (x6 + 1)))) else (none)) else (none)) else (none)) else (spec_l20Pairs.l0 k x0 x1 x5 (wrap64 (x6 + 1)))) else (some false)) else (none)) else (none)) else (none)) else (none))) else (some false))) else (none)) else (some false))) else (none)) else (some false)) else (none)) else (some (decide ((x1.length : Int) ≤ 8)))
def spec_l20Pairs.f (k : Nat) (l0 : List (S103)) (l1 : List (List Int)) : Option (Bool) := spec_l20Pairs.l0 k l0 l1 (wrap64 ((l0.length : Int) - 1)) 0
theorem spec_l20Pairs.mono_l : ∀ k, (∀ y0 y1 y2 y3, LeO (spec_l20Pairs.l0 k y0 y1 y2 y3) (spec_l20Pairs.l0 (k + 1) y0 y1 y2 y3))
 | 0 => fun _ _ _ _ r h => by simp [spec_l20Pairs.l0] at h
 | k + 1 => by
  have ih0 := spec_l20Pairs.mono_l k
  ·intro y0 y1 y2 y3
   unfold spec_l20Pairs.l0
   repeat' first
   | (with_reducible exact ih0 _ _ _ _)
   | (with_reducible exact LeO.refl _)
   | (with_reducible exact LeO.none _)
   | (with_reducible refine LeO.ite ?_ ?_)
   | (with_reducible refine LeO.bind ?_ (fun _ => ?_))
   | exact ih0 _ _ _ _
   | exact LeO.none _
   | refine LeO.ite ?_ ?_
   | refine LeO.bind ?_ (fun _ => ?_)
theorem spec_l20Pairs.mono : ∀ a0 a1 k, LeO (spec_l20Pairs.f k a0 a1) (spec_l20Pairs.f (k + 1) a0 a1) := by
 intro a0 a1 k
 have ih0 := spec_l20Pairs.mono_l k
 unfold spec_l20Pairs.f
 repeat' first
   | (with_reducible exact ih0 _ _ _ _)
   | (with_reducible exact LeO.refl _)
   | (with_reducible exact LeO.none _)
   | (with_reducible refine LeO.ite ?_ ?_)
   | (with_reducible refine LeO.bind ?_ (fun _ => ?_))
   | exact ih0 _ _ _ _
   | exact LeO.none _
   | refine LeO.ite ?_ ?_
   | refine LeO.bind ?_ (fun _ => ?_)
set_option maxHeartbeats 8000000 in
set_option maxRecDepth 100000 in
theorem spec_l20Pairs.calls (k : Nat) (A0 : Option Addr) (c0 : Nat) (l0 : List (S103)) (A1 : Option Addr) (c1 : Nat) (l1 : List (List Int)) (r : Bool) (w : World) (hr0 : Kd.C k103 w A0 l0.length l0) (hc0 : l0.length ≤ c0) (hr1 : Kd.C (Kd.slice 2 (Kd.int .i64)) w A1 l1.length l1) (hc1 : l1.length ≤ c1) (h : spec_l20Pairs.f k l0 l1 = some r) :
  Calls Try.prog 158 #[.slice A0 l0.length c0, .slice A1 l1.length c1] w fun e w' => e = .returned (.bool r) ∧ Drawn0 w w' := by
 have HR0 := Aside0.mk hr0
 have HC0 := Aside0.mk hc0
 clear hr0 hc0
 have HR1 := Aside0.mk hr1
 have HC1 := Aside0.mk hc1
 clear hr1 hc1
 have H : (spec_l20Pairs.l0 k l0 l1 (wrap64 ((l0.length : Int) - 1)) 0) = some r := h
 clear h
 have H' := Aside0.mk H
 clear H
 go_enter Try.func158, Try.ntmps158
 go_wp2
 repeat (go_quiet (fail); try go_wp2)
 go_loopg [6] k (fun kq v6 w' => ∃ (x6_1 : Int), v6 = .int .i64 x6_1 ∧ Aside0 (spec_l20Pairs.l0 kq l0 l1 (wrap64 ((l0.length : Int) - 1)) x6_1 = some r) ∧ Aside0 (kq ≤ k) ∧ Drawn0 w w')
 case atStart => exact ⟨(0), (by first | rfl | (simp; done) | (simp [*]; done)), H', ⟨Nat.le_refl _⟩, by repeat (first | exact Drawn0.refl _ | apply Drawn0.step)⟩
 case round =>
  clear H'
  try clear c1
  try clear p2
  obtain ⟨x6_1, rfl, HA, HK1, ⟨m1, rfl⟩⟩ := hrel
  cases gk with
  | zero => exact absurd HA.out (by simp [spec_l20Pairs.l0])
  | succ k1 =>
   have H := HA.out
   clear HA
   simp only [spec_l20Pairs.l0] at H
   by_cases c3 : x6_1 < (l1.length : Int)
   rotate_left
   ·rw [if_neg c3] at H
    have c3b0 : decide (x6_1 < (l1.length : Int)) = false := decide_eq_false c3
    clear c3
    obtain rfl := Option.some.inj H
    go_wp2
    repeat (go_quiet (fail); try go_wp2)
    go_ret
    exact ⟨by first | rfl | (simp; done) | (simp [*]; done), by repeat (first | exact Drawn0.refl _ | apply Drawn0.step)⟩
   rw [if_pos c3] at H
   have c3b0 : decide (x6_1 < (l1.length : Int)) = true := decide_eq_true c3
   clear c3
   by_cases c4 : 0 ≤ x6_1
   rotate_left
   ·rw [if_neg c4] at H
    exact absurd H (by simp)
   rw [if_pos c4] at H
   have c4b0 : decide (0 ≤ x6_1) = true := decide_eq_true c4
   clear c4
   by_cases c5 : ((rd_L5 l1 x6_1).length : Int) = 2
   rotate_left
   ·rw [if_neg c5] at H
    have c5b0 : (((rd_L5 l1 x6_1).length : Int) == 2) = false := beq_eq_false_iff_ne.mpr c5
    have c5b1 : (((rd_L5 l1 x6_1).length : Int) != 2) = true := bne_iff_ne.mpr c5
    obtain rfl := Option.some.inj H
    have p156 : 0 ≤ (x6_1 : Int) := of_decide_eq_true (by assumption)
    have q156 : x6_1 < (l1.length : Int) := of_decide_eq_true (by assumption)
    obtain ⟨ad156, A156_0, c156_0, e156, hx156_0, hl156_0, hi156_0⟩ := at_L5 HR1.out x6_1 p156 q156
    cases e156
    have HR156_0 := Aside0.mk hi156_0
    have HC156_0 := Aside0.mk hl156_0
    clear hi156_0 hl156_0
    replace p156 := eq_true p156
    replace q156 := eq_true q156
    go_wp2
    repeat (go_quiet (fail); try go_wp2)
    go_ret
    exact ⟨by first | rfl | (simp; done) | (simp [*]; done), by repeat (first | exact Drawn0.refl _ | apply Drawn0.step)⟩
   rw [if_pos c5] at H
   have c5b0 : (((rd_L5 l1 x6_1).length : Int) == 2) = true := beq_iff_eq.mpr c5
   have c5b1 : (((rd_L5 l1 x6_1).length : Int) != 2) = false := bne_eq_false_iff_eq.mpr c5
   clear c5
   by_cases c6 : 0 < ((rd_L5 l1 x6_1).length : Int)
   rotate_left
   ·rw [if_neg c6] at H
    exact absurd H (by simp)
   rw [if_pos c6] at H
   have c6b0 : decide (0 < ((rd_L5 l1 x6_1).length : Int)) = true := decide_eq_true c6
   have c6b1 : decide (0 < (rd_L5 l1 x6_1).length) = true := decide_eq_true (by omega)
   clear c6
   replace H := Option.bind_eq_some_iff.mp H
   obtain ⟨t158, A70, H⟩ := H
   replace H : (if t158 = true then (if 1 < ((rd_L5 l1 x6_1).length : Int) then ((spec_l00In.f (rd (rd_L5 l1 x6_1) 1) 0 (wrap64 ((l0.length : Int) - 1))).bind fun t160 => (if t160 = true then (if (rd (rd_L5 l1 x6_1) 0) = (rd (rd_L5 l1 x6_1) 1) then (some false) else (if 0 ≤ (rd (rd_L5 l1 x6_1) 0) then (if (rd (rd_L5 l1 x6_1) 0) < (l0.length : Int) then (if 0 ≤ (rd (rd_L5 l1 x6_1) 1) then (if (rd (rd_L5 l1 x6_1) 1) < (l0.length : Int) then (if ((rd_T103 l0 (rd (rd_L5 l1 x6_1) 0)).f2) = ((rd_T103 l0 (rd (rd_L5 l1 x6_1) 1)).f2) then (if x6_1 > 0 then (if 0 ≤ (wrap64 (x6_1 - 1)) then (if (wrap64 (x6_1 - 1)) < (l1.length : Int) then (if 0 < ((rd_L5 l1 (wrap64 (x6_1 - 1))).length : Int) then (if (rd (rd_L5 l1 (wrap64 (x6_1 - 1))) 0) ≥ (rd (rd_L5 l1 x6_1) 0) then (some false) else (spec_l20Pairs.l0 k1 l0 l1 (wrap64 ((l0.length : Int) - 1)) (wrap64 (x6_1 + 1)))) else (none)) else (none)) else (none)) else (spec_l20Pairs.l0 k1 l0 l1 (wrap64 ((l0.length : Int) - 1)) (wrap64 (x6_1 + 1)))) else (some false)) else (none)) else (none)) else (none)) else (none))) else (some false))) else (none)) else (some false)) = some r := H
   have A7 := Aside0.mk A70
   clear A70
   by_cases c8 : t158 = true
   rotate_left
   ·replace c8 := Bool.eq_false_iff.mpr c8
    subst c8
    have H1 : (some false) = some r := by rw [if_neg (show ¬ (false = true) by decide)] at H; exact H
    clear H
    have H := H1
    clear H1
    obtain rfl := Option.some.inj H
    have p156 : 0 ≤ (x6_1 : Int) := of_decide_eq_true (by assumption)
    have q156 : x6_1 < (l1.length : Int) := of_decide_eq_true (by assumption)
    obtain ⟨ad156, A156_0, c156_0, e156, hx156_0, hl156_0, hi156_0⟩ := at_L5 HR1.out x6_1 p156 q156
    cases e156
    have HR156_0 := Aside0.mk hi156_0
    have HC156_0 := Aside0.mk hl156_0
    clear hi156_0 hl156_0
    replace p156 := eq_true p156
    replace q156 := eq_true q156
    have p157 : 0 ≤ (0 : Int) := (by omega)
    have q157 : 0 < ((rd_L5 l1 x6_1).length : Int) := of_decide_eq_true (by assumption)
    obtain ⟨ad157, e157, hx157_0⟩ := Kd.at_int HR156_0.out 0 p157 q157
    cases e157
    have qi157 : (0 < (rd_L5 l1 x6_1).length) = True := eq_true (by omega)
    (try rw [show ((0 : Int)).toNat = 0 from rfl] at hx157_0)
    (try rw [Addr.add_zero'] at hx157_0)
    replace p157 := eq_true p157
    replace q157 := eq_true q157
    go_wp2_with (first | (go_at_call 155; refine calls_of_args (args' := #[.int .i64 (rd (rd_L5 l1 x6_1) 0), .int .i64 0, .int .i64 (wrap64 ((l0.length : Int) - 1))]) (by first | with_reducible rfl | rfl) ?_; (with_reducible refine (spec_l00In.calls (rd (rd_L5 l1 x6_1) 0) 0 (wrap64 ((l0.length : Int) - 1)) false _ A7.out).mono ?_); rintro e w' ⟨rfl, ⟨nd, rfl⟩⟩; (try first | exact ⟨rfl, _, World.drewN_drewN _ _ _⟩ | exact ⟨rfl, _, Eq.trans (World.drewN_drewN _ _ _) (congrArg (World.drewN _) (Nat.add_assoc _ _ _))⟩)))
    repeat (go_quiet (first | (go_at_call 155; refine calls_of_args (args' := #[.int .i64 (rd (rd_L5 l1 x6_1) 0), .int .i64 0, .int .i64 (wrap64 ((l0.length : Int) - 1))]) (by first | with_reducible rfl | rfl) ?_; (with_reducible refine (spec_l00In.calls (rd (rd_L5 l1 x6_1) 0) 0 (wrap64 ((l0.length : Int) - 1)) false _ A7.out).mono ?_); rintro e w' ⟨rfl, ⟨nd, rfl⟩⟩; (try first | exact ⟨rfl, _, World.drewN_drewN _ _ _⟩ | exact ⟨rfl, _, Eq.trans (World.drewN_drewN _ _ _) (congrArg (World.drewN _) (Nat.add_assoc _ _ _))⟩))); try go_wp2_with (first | (go_at_call 155; refine calls_of_args (args' := #[.int .i64 (rd (rd_L5 l1 x6_1) 0), .int .i64 0, .int .i64 (wrap64 ((l0.length : Int) - 1))]) (by first | with_reducible rfl | rfl) ?_; (with_reducible refine (spec_l00In.calls (rd (rd_L5 l1 x6_1) 0) 0 (wrap64 ((l0.length : Int) - 1)) false _ A7.out).mono ?_); rintro e w' ⟨rfl, ⟨nd, rfl⟩⟩; (try first | exact ⟨rfl, _, World.drewN_drewN _ _ _⟩ | exact ⟨rfl, _, Eq.trans (World.drewN_drewN _ _ _) (congrArg (World.drewN _) (Nat.add_assoc _ _ _))⟩))))
    go_ret
    exact ⟨by first | rfl | (simp; done) | (simp [*]; done), by repeat (first | exact Drawn0.refl _ | apply Drawn0.step)⟩
   subst c8
   have H1 : (if 1 < ((rd_L5 l1 x6_1).length : Int) then ((spec_l00In.f (rd (rd_L5 l1 x6_1) 1) 0 (wrap64 ((l0.length : Int) - 1))).bind fun t160 => (if t160 = true then (if (rd (rd_L5 l1 x6_1) 0) = (rd (rd_L5 l1 x6_1) 1) then (some false) else (if 0 ≤ (rd (rd_L5 l1 x6_1) 0) then (if (rd (rd_L5 l1 x6_1) 0) < (l0.length : Int) then (if 0 ≤ (rd (rd_L5 l1 x6_1) 1) then (if (rd (rd_L5 l1 x6_1) 1) < (l0.length : Int) then (if ((rd_T103 l0 (rd (rd_L5 l1 x6_1) 0)).f2) = ((rd_T103 l0 (rd (rd_L5 l1 x6_1) 1)).f2) then (if x6_1 > 0 then (if 0 ≤ (wrap64 (x6_1 - 1)) then (if (wrap64 (x6_1 - 1)) < (l1.length : Int) then (if 0 < ((rd_L5 l1 (wrap64 (x6_1 - 1))).length : Int) then (if (rd (rd_L5 l1 (wrap64 (x6_1 - 1))) 0) ≥ (rd (rd_L5 l1 x6_1) 0) then (some false) else (spec_l20Pairs.l0 k1 l0 l1 (wrap64 ((l0.length : Int) - 1)) (wrap64 (x6_1 + 1)))) else (none)) else (none)) else (none)) else (spec_l20Pairs.l0 k1 l0 l1 (wrap64 ((l0.length : Int) - 1)) (wrap64 (x6_1 + 1)))) else (some false)) else (none)) else (none)) else (none)) else (none))) else (some false))) else (none)) = some r := by rw [if_pos rfl] at H; exact H
   clear H
   have H := H1
   clear H1
   by_cases c9 : 1 < ((rd_L5 l1 x6_1).length : Int)
   rotate_left
   ·rw [if_neg c9] at H
    exact absurd H (by simp)
   rw [if_pos c9] at H
   have c9b0 : decide (1 < ((rd_L5 l1 x6_1).length : Int)) = true := decide_eq_true c9
   have c9b1 : decide (1 < (rd_L5 l1 x6_1).length) = true := decide_eq_true (by omega)
   clear c9
   replace H := Option.bind_eq_some_iff.mp H
   obtain ⟨t160, A100, H⟩ := H
   replace H : (if t160 = true then (if (rd (rd_L5 l1 x6_1) 0) = (rd (rd_L5 l1 x6_1) 1) then (some false) else (if 0 ≤ (rd (rd_L5 l1 x6_1) 0) then (if (rd (rd_L5 l1 x6_1) 0) < (l0.length : Int) then (if 0 ≤ (rd (rd_L5 l1 x6_1) 1) then (if (rd (rd_L5 l1 x6_1) 1) < (l0.length : Int) then (if ((rd_T103 l0 (rd (rd_L5 l1 x6_1) 0)).f2) = ((rd_T103 l0 (rd (rd_L5 l1 x6_1) 1)).f2) then (if x6_1 > 0 then (if 0 ≤ (wrap64 (x6_1 - 1)) then (if (wrap64 (x6_1 - 1)) < (l1.length : Int) then (if 0 < ((rd_L5 l1 (wrap64 (x6_1 - 1))).length : Int) then (if (rd (rd_L5 l1 (wrap64 (x6_1 - 1))) 0) ≥ (rd (rd_L5 l1 x6_1) 0) then (some false) else (spec_l20Pairs.l0 k1 l0 l1 (wrap64 ((l0.length : Int) - 1)) (wrap64 (x6_1 + 1)))) else (none)) else (none)) else (none)) else (spec_l20Pairs.l0 k1 l0 l1 (wrap64 ((l0.length : Int) - 1)) (wrap64 (x6_1 + 1)))) else (some false)) else (none)) else (none)) else (none)) else (none))) else (some false)) = some r := H
   have A10 := Aside0.mk A100
   clear A100
   by_cases c11 : t160 = true
   rotate_left
   ·replace c11 := Bool.eq_false_iff.mpr c11
    subst c11
    have H1 : (some false) = some r := by rw [if_neg (show ¬ (false = true) by decide)] at H; exact H
    clear H
    have H := H1
    clear H1
    obtain rfl := Option.some.inj H
    have p156 : 0 ≤ (x6_1 : Int) := of_decide_eq_true (by assumption)
    have q156 : x6_1 < (l1.length : Int) := of_decide_eq_true (by assumption)
    obtain ⟨ad156, A156_0, c156_0, e156, hx156_0, hl156_0, hi156_0⟩ := at_L5 HR1.out x6_1 p156 q156
    cases e156
    have HR156_0 := Aside0.mk hi156_0
    have HC156_0 := Aside0.mk hl156_0
    clear hi156_0 hl156_0
    replace p156 := eq_true p156
    replace q156 := eq_true q156
    have p157 : 0 ≤ (0 : Int) := (by omega)
    have q157 : 0 < ((rd_L5 l1 x6_1).length : Int) := of_decide_eq_true (by assumption)
    obtain ⟨ad157, e157, hx157_0⟩ := Kd.at_int HR156_0.out 0 p157 q157
    cases e157
    have qi157 : (0 < (rd_L5 l1 x6_1).length) = True := eq_true (by omega)
    (try rw [show ((0 : Int)).toNat = 0 from rfl] at hx157_0)
    (try rw [Addr.add_zero'] at hx157_0)
    replace p157 := eq_true p157
    replace q157 := eq_true q157
    have p159 : 0 ≤ (1 : Int) := (by omega)
    have q159 : 1 < ((rd_L5 l1 x6_1).length : Int) := of_decide_eq_true (by assumption)
    obtain ⟨ad159, e159, hx159_0⟩ := Kd.at_int HR156_0.out 1 p159 q159
    obtain rfl : ad157 = ad159 := (by injection e159)
    (try simp only [show (1 : Int).toNat = 1 from rfl, Nat.reduceMul, Nat.reduceEqDiff, Go.Addr.add, ↓reduceIte] at hx159_0)
    have qi159 : (1 < (rd_L5 l1 x6_1).length) = True := eq_true (by omega)
    (try rw [show ((1 : Int)).toNat = 1 from rfl] at hx159_0)
    replace p159 := eq_true p159
    replace q159 := eq_true q159
    go_wp2_with (first | (go_at_call 155; refine calls_of_args (args' := #[.int .i64 (rd (rd_L5 l1 x6_1) 0), .int .i64 0, .int .i64 (wrap64 ((l0.length : Int) - 1))]) (by first | with_reducible rfl | rfl) ?_; (with_reducible refine (spec_l00In.calls (rd (rd_L5 l1 x6_1) 0) 0 (wrap64 ((l0.length : Int) - 1)) true _ A7.out).mono ?_); rintro e w' ⟨rfl, ⟨nd, rfl⟩⟩; (try first | exact ⟨rfl, _, World.drewN_drewN _ _ _⟩ | exact ⟨rfl, _, Eq.trans (World.drewN_drewN _ _ _) (congrArg (World.drewN _) (Nat.add_assoc _ _ _))⟩)) | (go_at_call 155; refine calls_of_args (args' := #[.int .i64 (rd (rd_L5 l1 x6_1) 1), .int .i64 0, .int .i64 (wrap64 ((l0.length : Int) - 1))]) (by first | with_reducible rfl | rfl) ?_; (with_reducible refine (spec_l00In.calls (rd (rd_L5 l1 x6_1) 1) 0 (wrap64 ((l0.length : Int) - 1)) false _ A10.out).mono ?_); rintro e w' ⟨rfl, ⟨nd, rfl⟩⟩; (try first | exact ⟨rfl, _, World.drewN_drewN _ _ _⟩ | exact ⟨rfl, _, Eq.trans (World.drewN_drewN _ _ _) (congrArg (World.drewN _) (Nat.add_assoc _ _ _))⟩)))
    repeat (go_quiet (first | (go_at_call 155; refine calls_of_args (args' := #[.int .i64 (rd (rd_L5 l1 x6_1) 0), .int .i64 0, .int .i64 (wrap64 ((l0.length : Int) - 1))]) (by first | with_reducible rfl | rfl) ?_; (with_reducible refine (spec_l00In.calls (rd (rd_L5 l1 x6_1) 0) 0 (wrap64 ((l0.length : Int) - 1)) true _ A7.out).mono ?_); rintro e w' ⟨rfl, ⟨nd, rfl⟩⟩; (try first | exact ⟨rfl, _, World.drewN_drewN _ _ _⟩ | exact ⟨rfl, _, Eq.trans (World.drewN_drewN _ _ _) (congrArg (World.drewN _) (Nat.add_assoc _ _ _))⟩)) | (go_at_call 155; refine calls_of_args (args' := #[.int .i64 (rd (rd_L5 l1 x6_1) 1), .int .i64 0, .int .i64 (wrap64 ((l0.length : Int) - 1))]) (by first | with_reducible rfl | rfl) ?_; (with_reducible refine (spec_l00In.calls (rd (rd_L5 l1 x6_1) 1) 0 (wrap64 ((l0.length : Int) - 1)) false _ A10.out).mono ?_); rintro e w' ⟨rfl, ⟨nd, rfl⟩⟩; (try first | exact ⟨rfl, _, World.drewN_drewN _ _ _⟩ | exact ⟨rfl, _, Eq.trans (World.drewN_drewN _ _ _) (congrArg (World.drewN _) (Nat.add_assoc _ _ _))⟩))); try go_wp2_with (first | (go_at_call 155; refine calls_of_args (args' := #[.int .i64 (rd (rd_L5 l1 x6_1) 0), .int .i64 0, .int .i64 (wrap64 ((l0.length : Int) - 1))]) (by first | with_reducible rfl | rfl) ?_; (with_reducible refine (spec_l00In.calls (rd (rd_L5 l1 x6_1) 0) 0 (wrap64 ((l0.length : Int) - 1)) true _ A7.out).mono ?_); rintro e w' ⟨rfl, ⟨nd, rfl⟩⟩; (try first | exact ⟨rfl, _, World.drewN_drewN _ _ _⟩ | exact ⟨rfl, _, Eq.trans (World.drewN_drewN _ _ _) (congrArg (World.drewN _) (Nat.add_assoc _ _ _))⟩)) | (go_at_call 155; refine calls_of_args (args' := #[.int .i64 (rd (rd_L5 l1 x6_1) 1), .int .i64 0, .int .i64 (wrap64 ((l0.length : Int) - 1))]) (by first | with_reducible rfl | rfl) ?_; (with_reducible refine (spec_l00In.calls (rd (rd_L5 l1 x6_1) 1) 0 (wrap64 ((l0.length : Int) - 1)) false _ A10.out).mono ?_); rintro e w' ⟨rfl, ⟨nd, rfl⟩⟩; (try first | exact ⟨rfl, _, World.drewN_drewN _ _ _⟩ | exact ⟨rfl, _, Eq.trans (World.drewN_drewN _ _ _) (congrArg (World.drewN _) (Nat.add_assoc _ _ _))⟩))))
    go_ret
    exact ⟨by first | rfl | (simp; done) | (simp [*]; done), by repeat (first | exact Drawn0.refl _ | apply Drawn0.step)⟩
   subst c11
   have H1 : (if (rd (rd_L5 l1 x6_1) 0) = (rd (rd_L5 l1 x6_1) 1) then (some false) else (if 0 ≤ (rd (rd_L5 l1 x6_1) 0) then (if (rd (rd_L5 l1 x6_1) 0) < (l0.length : Int) then (if 0 ≤ (rd (rd_L5 l1 x6_1) 1) then (if (rd (rd_L5 l1 x6_1) 1) < (l0.length : Int) then (if ((rd_T103 l0 (rd (rd_L5 l1 x6_1) 0)).f2) = ((rd_T103 l0 (rd (rd_L5 l1 x6_1) 1)).f2) then (if x6_1 > 0 then (if 0 ≤ (wrap64 (x6_1 - 1)) then (if (wrap64 (x6_1 - 1)) < (l1.length : Int) then (if 0 < ((rd_L5 l1 (wrap64 (x6_1 - 1))).length : Int) then (if (rd (rd_L5 l1 (wrap64 (x6_1 - 1))) 0) ≥ (rd (rd_L5 l1 x6_1) 0) then (some false) else (spec_l20Pairs.l0 k1 l0 l1 (wrap64 ((l0.length : Int) - 1)) (wrap64 (x6_1 + 1)))) else (none)) else (none)) else (none)) else (spec_l20Pairs.l0 k1 l0 l1 (wrap64 ((l0.length : Int) - 1)) (wrap64 (x6_1 + 1)))) else (some false)) else (none)) else (none)) else (none)) else (none))) = some r := by rw [if_pos rfl] at H; exact H
   clear H
   have H := H1
   clear H1
   by_cases c12 : (rd (rd_L5 l1 x6_1) 0) = (rd (rd_L5 l1 x6_1) 1)
   rotate_left
   ·rw [if_neg c12] at H
    have c12b0 : ((rd (rd_L5 l1 x6_1) 0) == (rd (rd_L5 l1 x6_1) 1)) = false := beq_eq_false_iff_ne.mpr c12
    have c12b1 : ((rd (rd_L5 l1 x6_1) 0) != (rd (rd_L5 l1 x6_1) 1)) = true := bne_iff_ne.mpr c12
    by_cases c13 : 0 ≤ (rd (rd_L5 l1 x6_1) 0)
    rotate_left
    ·rw [if_neg c13] at H
     exact absurd H (by simp)
    rw [if_pos c13] at H
    have c13b0 : decide (0 ≤ (rd (rd_L5 l1 x6_1) 0)) = true := decide_eq_true c13
    clear c13
    by_cases c14 : (rd (rd_L5 l1 x6_1) 0) < (l0.length : Int)
    rotate_left
    ·rw [if_neg c14] at H
     exact absurd H (by simp)
    rw [if_pos c14] at H
    have c14b0 : decide ((rd (rd_L5 l1 x6_1) 0) < (l0.length : Int)) = true := decide_eq_true c14
    clear c14
    by_cases c15 : 0 ≤ (rd (rd_L5 l1 x6_1) 1)
    rotate_left
    ·rw [if_neg c15] at H
     exact absurd H (by simp)
    rw [if_pos c15] at H
    have c15b0 : decide (0 ≤ (rd (rd_L5 l1 x6_1) 1)) = true := decide_eq_true c15
    clear c15
    by_cases c16 : (rd (rd_L5 l1 x6_1) 1) < (l0.length : Int)
    rotate_left
    ·rw [if_neg c16] at H
     exact absurd H (by simp)
    rw [if_pos c16] at H
    have c16b0 : decide ((rd (rd_L5 l1 x6_1) 1) < (l0.length : Int)) = true := decide_eq_true c16
    clear c16
    by_cases c17 : ((rd_T103 l0 (rd (rd_L5 l1 x6_1) 0)).f2) = ((rd_T103 l0 (rd (rd_L5 l1 x6_1) 1)).f2)
    rotate_left
    ·rw [if_neg c17] at H
     have c17b0 : (((rd_T103 l0 (rd (rd_L5 l1 x6_1) 0)).f2) == ((rd_T103 l0 (rd (rd_L5 l1 x6_1) 1)).f2)) = false := beq_eq_false_iff_ne.mpr c17
     have c17b1 : (((rd_T103 l0 (rd (rd_L5 l1 x6_1) 0)).f2) != ((rd_T103 l0 (rd (rd_L5 l1 x6_1) 1)).f2)) = true := bne_iff_ne.mpr c17
     obtain rfl := Option.some.inj H
     have p156 : 0 ≤ (x6_1 : Int) := of_decide_eq_true (by assumption)
     have q156 : x6_1 < (l1.length : Int) := of_decide_eq_true (by assumption)
     obtain ⟨ad156, A156_0, c156_0, e156, hx156_0, hl156_0, hi156_0⟩ := at_L5 HR1.out x6_1 p156 q156
     cases e156
     have HR156_0 := Aside0.mk hi156_0
     have HC156_0 := Aside0.mk hl156_0
     clear hi156_0 hl156_0
     replace p156 := eq_true p156
     replace q156 := eq_true q156
     have p157 : 0 ≤ (0 : Int) := (by omega)
     have q157 : 0 < ((rd_L5 l1 x6_1).length : Int) := of_decide_eq_true (by assumption)
     obtain ⟨ad157, e157, hx157_0⟩ := Kd.at_int HR156_0.out 0 p157 q157
     cases e157
     have qi157 : (0 < (rd_L5 l1 x6_1).length) = True := eq_true (by omega)
     (try rw [show ((0 : Int)).toNat = 0 from rfl] at hx157_0)
     (try rw [Addr.add_zero'] at hx157_0)
     replace p157 := eq_true p157
     replace q157 := eq_true q157
     have p159 : 0 ≤ (1 : Int) := (by omega)
     have q159 : 1 < ((rd_L5 l1 x6_1).length : Int) := of_decide_eq_true (by assumption)
     obtain ⟨ad159, e159, hx159_0⟩ := Kd.at_int HR156_0.out 1 p159 q159
     obtain rfl : ad157 = ad159 := (by injection e159)
     (try simp only [show (1 : Int).toNat = 1 from rfl, Nat.reduceMul, Nat.reduceEqDiff, Go.Addr.add, ↓reduceIte] at hx159_0)
     have qi159 : (1 < (rd_L5 l1 x6_1).length) = True := eq_true (by omega)
     (try rw [show ((1 : Int)).toNat = 1 from rfl] at hx159_0)
     replace p159 := eq_true p159
     replace q159 := eq_true q159
     have p161 : 0 ≤ (0 : Int) := (by omega)
     have q161 : 0 < ((rd_L5 l1 x6_1).length : Int) := of_decide_eq_true (by assumption)
     obtain ⟨ad161, e161, hx161_0⟩ := Kd.at_int HR156_0.out 0 p161 q161
     obtain rfl : ad157 = ad161 := (by injection e161)
     have qi161 : (0 < (rd_L5 l1 x6_1).length) = True := eq_true (by omega)
     (try rw [show ((0 : Int)).toNat = 0 from rfl] at hx161_0)
     (try rw [Addr.add_zero'] at hx161_0)
     replace p161 := eq_true p161
     replace q161 := eq_true q161
     have p162 : 0 ≤ (1 : Int) := (by omega)
     have q162 : 1 < ((rd_L5 l1 x6_1).length : Int) := of_decide_eq_true (by assumption)
     obtain ⟨ad162, e162, hx162_0⟩ := Kd.at_int HR156_0.out 1 p162 q162
     obtain rfl : ad157 = ad162 := (by injection e162)
     (try simp only [show (1 : Int).toNat = 1 from rfl, Nat.reduceMul, Nat.reduceEqDiff, Go.Addr.add, ↓reduceIte] at hx162_0)
     have qi162 : (1 < (rd_L5 l1 x6_1).length) = True := eq_true (by omega)
     (try rw [show ((1 : Int)).toNat = 1 from rfl] at hx162_0)
     replace p162 := eq_true p162
     replace q162 := eq_true q162
     have p163 : 0 ≤ (0 : Int) := (by omega)
     have q163 : 0 < ((rd_L5 l1 x6_1).length : Int) := of_decide_eq_true (by assumption)
     obtain ⟨ad163, e163, hx163_0⟩ := Kd.at_int HR156_0.out 0 p163 q163
     obtain rfl : ad157 = ad163 := (by injection e163)
     have qi163 : (0 < (rd_L5 l1 x6_1).length) = True := eq_true (by omega)
     (try rw [show ((0 : Int)).toNat = 0 from rfl] at hx163_0)
     (try rw [Addr.add_zero'] at hx163_0)
     replace p163 := eq_true p163
     replace q163 := eq_true q163
     have p164 : 0 ≤ ((rd (rd_L5 l1 x6_1) 0) : Int) := of_decide_eq_true (by assumption)
     have q164 : (rd (rd_L5 l1 x6_1) 0) < (l0.length : Int) := of_decide_eq_true (by assumption)
     obtain ⟨ad164, e164, hx164_0, hx164_1, hx164_2⟩ := at_T103 HR0.out (rd (rd_L5 l1 x6_1) 0) p164 q164
     cases e164
     replace p164 := eq_true p164
     replace q164 := eq_true q164
     have p165 : 0 ≤ (1 : Int) := (by omega)
     have q165 : 1 < ((rd_L5 l1 x6_1).length : Int) := of_decide_eq_true (by assumption)
     obtain ⟨ad165, e165, hx165_0⟩ := Kd.at_int HR156_0.out 1 p165 q165
     obtain rfl : ad157 = ad165 := (by injection e165)
     (try simp only [show (1 : Int).toNat = 1 from rfl, Nat.reduceMul, Nat.reduceEqDiff, Go.Addr.add, ↓reduceIte] at hx165_0)
     have qi165 : (1 < (rd_L5 l1 x6_1).length) = True := eq_true (by omega)
     (try rw [show ((1 : Int)).toNat = 1 from rfl] at hx165_0)
     replace p165 := eq_true p165
     replace q165 := eq_true q165
     have p166 : 0 ≤ ((rd (rd_L5 l1 x6_1) 1) : Int) := of_decide_eq_true (by assumption)
     have q166 : (rd (rd_L5 l1 x6_1) 1) < (l0.length : Int) := of_decide_eq_true (by assumption)
     obtain ⟨ad166, e166, hx166_0, hx166_1, hx166_2⟩ := at_T103 HR0.out (rd (rd_L5 l1 x6_1) 1) p166 q166
     obtain rfl : ad164 = ad166 := (by injection e166)
     replace p166 := eq_true p166
     replace q166 := eq_true q166
     go_wp2_with (first | (go_at_call 155; refine calls_of_args (args' := #[.int .i64 (rd (rd_L5 l1 x6_1) 0), .int .i64 0, .int .i64 (wrap64 ((l0.length : Int) - 1))]) (by first | with_reducible rfl | rfl) ?_; (with_reducible refine (spec_l00In.calls (rd (rd_L5 l1 x6_1) 0) 0 (wrap64 ((l0.length : Int) - 1)) true _ A7.out).mono ?_); rintro e w' ⟨rfl, ⟨nd, rfl⟩⟩; (try first | exact ⟨rfl, _, World.drewN_drewN _ _ _⟩ | exact ⟨rfl, _, Eq.trans (World.drewN_drewN _ _ _) (congrArg (World.drewN _) (Nat.add_assoc _ _ _))⟩)) | (go_at_call 155; refine calls_of_args (args' := #[.int .i64 (rd (rd_L5 l1 x6_1) 1), .int .i64 0, .int .i64 (wrap64 ((l0.length : Int) - 1))]) (by first | with_reducible rfl | rfl) ?_; (with_reducible refine (spec_l00In.calls (rd (rd_L5 l1 x6_1) 1) 0 (wrap64 ((l0.length : Int) - 1)) true _ A10.out).mono ?_); rintro e w' ⟨rfl, ⟨nd, rfl⟩⟩; (try first | exact ⟨rfl, _, World.drewN_drewN _ _ _⟩ | exact ⟨rfl, _, Eq.trans (World.drewN_drewN _ _ _) (congrArg (World.drewN _) (Nat.add_assoc _ _ _))⟩)))
     repeat (go_quiet (first | (go_at_call 155; refine calls_of_args (args' := #[.int .i64 (rd (rd_L5 l1 x6_1) 0), .int .i64 0, .int .i64 (wrap64 ((l0.length : Int) - 1))]) (by first | with_reducible rfl | rfl) ?_; (with_reducible refine (spec_l00In.calls (rd (rd_L5 l1 x6_1) 0) 0 (wrap64 ((l0.length : Int) - 1)) true _ A7.out).mono ?_); rintro e w' ⟨rfl, ⟨nd, rfl⟩⟩; (try first | exact ⟨rfl, _, World.drewN_drewN _ _ _⟩ | exact ⟨rfl, _, Eq.trans (World.drewN_drewN _ _ _) (congrArg (World.drewN _) (Nat.add_assoc _ _ _))⟩)) | (go_at_call 155; refine calls_of_args (args' := #[.int .i64 (rd (rd_L5 l1 x6_1) 1), .int .i64 0, .int .i64 (wrap64 ((l0.length : Int) - 1))]) (by first | with_reducible rfl | rfl) ?_; (with_reducible refine (spec_l00In.calls (rd (rd_L5 l1 x6_1) 1) 0 (wrap64 ((l0.length : Int) - 1)) true _ A10.out).mono ?_); rintro e w' ⟨rfl, ⟨nd, rfl⟩⟩; (try first | exact ⟨rfl, _, World.drewN_drewN _ _ _⟩ | exact ⟨rfl, _, Eq.trans (World.drewN_drewN _ _ _) (congrArg (World.drewN _) (Nat.add_assoc _ _ _))⟩))); try go_wp2_with (first | (go_at_call 155; refine calls_of_args (args' := #[.int .i64 (rd (rd_L5 l1 x6_1) 0), .int .i64 0, .int .i64 (wrap64 ((l0.length : Int) - 1))]) (by first | with_reducible rfl | rfl) ?_; (with_reducible refine (spec_l00In.calls (rd (rd_L5 l1 x6_1) 0) 0 (wrap64 ((l0.length : Int) - 1)) true _ A7.out).mono ?_); rintro e w' ⟨rfl, ⟨nd, rfl⟩⟩; (try first | exact ⟨rfl, _, World.drewN_drewN _ _ _⟩ | exact ⟨rfl, _, Eq.trans (World.drewN_drewN _ _ _) (congrArg (World.drewN _) (Nat.add_assoc _ _ _))⟩)) | (go_at_call 155; refine calls_of_args (args' := #[.int .i64 (rd (rd_L5 l1 x6_1) 1), .int .i64 0, .int .i64 (wrap64 ((l0.length : Int) - 1))]) (by first | with_reducible rfl | rfl) ?_; (with_reducible refine (spec_l00In.calls (rd (rd_L5 l1 x6_1) 1) 0 (wrap64 ((l0.length : Int) - 1)) true _ A10.out).mono ?_); rintro e w' ⟨rfl, ⟨nd, rfl⟩⟩; (try first | exact ⟨rfl, _, World.drewN_drewN _ _ _⟩ | exact ⟨rfl, _, Eq.trans (World.drewN_drewN _ _ _) (congrArg (World.drewN _) (Nat.add_assoc _ _ _))⟩))))
     go_ret
     exact ⟨by first | rfl | (simp; done) | (simp [*]; done), by repeat (first | exact Drawn0.refl _ | apply Drawn0.step)⟩
    rw [if_pos c17] at H
    have c17b0 : (((rd_T103 l0 (rd (rd_L5 l1 x6_1) 0)).f2) == ((rd_T103 l0 (rd (rd_L5 l1 x6_1) 1)).f2)) = true := beq_iff_eq.mpr c17
    have c17b1 : (((rd_T103 l0 (rd (rd_L5 l1 x6_1) 0)).f2) != ((rd_T103 l0 (rd (rd_L5 l1 x6_1) 1)).f2)) = false := bne_eq_false_iff_eq.mpr c17
    clear c17
    by_cases c18 : x6_1 > 0
    rotate_left
    ·rw [if_neg c18] at H
     have c18b0 : decide (0 < x6_1) = false := decide_eq_false c18
     clear c18
     have H' := Aside0.mk H
     clear H
     have p156 : 0 ≤ (x6_1 : Int) := of_decide_eq_true (by assumption)
     have q156 : x6_1 < (l1.length : Int) := of_decide_eq_true (by assumption)
     obtain ⟨ad156, A156_0, c156_0, e156, hx156_0, hl156_0, hi156_0⟩ := at_L5 HR1.out x6_1 p156 q156
     cases e156
     have HR156_0 := Aside0.mk hi156_0
     have HC156_0 := Aside0.mk hl156_0
     clear hi156_0 hl156_0
     replace p156 := eq_true p156
     replace q156 := eq_true q156
     have p157 : 0 ≤ (0 : Int) := (by omega)
     have q157 : 0 < ((rd_L5 l1 x6_1).length : Int) := of_decide_eq_true (by assumption)
     obtain ⟨ad157, e157, hx157_0⟩ := Kd.at_int HR156_0.out 0 p157 q157
     cases e157
     have qi157 : (0 < (rd_L5 l1 x6_1).length) = True := eq_true (by omega)
     (try rw [show ((0 : Int)).toNat = 0 from rfl] at hx157_0)
     (try rw [Addr.add_zero'] at hx157_0)
     replace p157 := eq_true p157
     replace q157 := eq_true q157
     have p159 : 0 ≤ (1 : Int) := (by omega)
     have q159 : 1 < ((rd_L5 l1 x6_1).length : Int) := of_decide_eq_true (by assumption)
     obtain ⟨ad159, e159, hx159_0⟩ := Kd.at_int HR156_0.out 1 p159 q159
     obtain rfl : ad157 = ad159 := (by injection e159)
     (try simp only [show (1 : Int).toNat = 1 from rfl, Nat.reduceMul, Nat.reduceEqDiff, Go.Addr.add, ↓reduceIte] at hx159_0)
     have qi159 : (1 < (rd_L5 l1 x6_1).length) = True := eq_true (by omega)
     (try rw [show ((1 : Int)).toNat = 1 from rfl] at hx159_0)
     replace p159 := eq_true p159
     replace q159 := eq_true q159
     have p161 : 0 ≤ (0 : Int) := (by omega)
     have q161 : 0 < ((rd_L5 l1 x6_1).length : Int) := of_decide_eq_true (by assumption)
     obtain ⟨ad161, e161, hx161_0⟩ := Kd.at_int HR156_0.out 0 p161 q161
     obtain rfl : ad157 = ad161 := (by injection e161)
     have qi161 : (0 < (rd_L5 l1 x6_1).length) = True := eq_true (by omega)
     (try rw [show ((0 : Int)).toNat = 0 from rfl] at hx161_0)
     (try rw [Addr.add_zero'] at hx161_0)
     replace p161 := eq_true p161
     replace q161 := eq_true q161
     have p162 : 0 ≤ (1 : Int) := (by omega)
     have q162 : 1 < ((rd_L5 l1 x6_1).length : Int) := of_decide_eq_true (by assumption)
     obtain ⟨ad162, e162, hx162_0⟩ := Kd.at_int HR156_0.out 1 p162 q162
     obtain rfl : ad157 = ad162 := (by injection e162)
     (try simp only [show (1 : Int).toNat = 1 from rfl, Nat.reduceMul, Nat.reduceEqDiff, Go.Addr.add, ↓reduceIte] at hx162_0)
     have qi162 : (1 < (rd_L5 l1 x6_1).length) = True := eq_true (by omega)
     (try rw [show ((1 : Int)).toNat = 1 from rfl] at hx162_0)
     replace p162 := eq_true p162
     replace q162 := eq_true q162
     have p163 : 0 ≤ (0 : Int) := (by omega)
     have q163 : 0 < ((rd_L5 l1 x6_1).length : Int) := of_decide_eq_true (by assumption)
     obtain ⟨ad163, e163, hx163_0⟩ := Kd.at_int HR156_0.out 0 p163 q163
     obtain rfl : ad157 = ad163 := (by injection e163)
     have qi163 : (0 < (rd_L5 l1 x6_1).length) = True := eq_true (by omega)
     (try rw [show ((0 : Int)).toNat = 0 from rfl] at hx163_0)
     (try rw [Addr.add_zero'] at hx163_0)
     replace p163 := eq_true p163
     replace q163 := eq_true q163
     have p164 : 0 ≤ ((rd (rd_L5 l1 x6_1) 0) : Int) := of_decide_eq_true (by assumption)
     have q164 : (rd (rd_L5 l1 x6_1) 0) < (l0.length : Int) := of_decide_eq_true (by assumption)
     obtain ⟨ad164, e164, hx164_0, hx164_1, hx164_2⟩ := at_T103 HR0.out (rd (rd_L5 l1 x6_1) 0) p164 q164
     cases e164
     replace p164 := eq_true p164
     replace q164 := eq_true q164
     have p165 : 0 ≤ (1 : Int) := (by omega)
     have q165 : 1 < ((rd_L5 l1 x6_1).length : Int) := of_decide_eq_true (by assumption)
     obtain ⟨ad165, e165, hx165_0⟩ := Kd.at_int HR156_0.out 1 p165 q165
     obtain rfl : ad157 = ad165 := (by injection e165)
     (try simp only [show (1 : Int).toNat = 1 from rfl, Nat.reduceMul, Nat.reduceEqDiff, Go.Addr.add, ↓reduceIte] at hx165_0)
     have qi165 : (1 < (rd_L5 l1 x6_1).length) = True := eq_true (by omega)
     (try rw [show ((1 : Int)).toNat = 1 from rfl] at hx165_0)
     replace p165 := eq_true p165
     replace q165 := eq_true q165
     have p166 : 0 ≤ ((rd (rd_L5 l1 x6_1) 1) : Int) := of_decide_eq_true (by assumption)
     have q166 : (rd (rd_L5 l1 x6_1) 1) < (l0.length : Int) := of_decide_eq_true (by assumption)
     obtain ⟨ad166, e166, hx166_0, hx166_1, hx166_2⟩ := at_T103 HR0.out (rd (rd_L5 l1 x6_1) 1) p166 q166
     obtain rfl : ad164 = ad166 := (by injection e166)
     replace p166 := eq_true p166
     replace q166 := eq_true q166
     go_wp2_with (first | (go_at_call 155; refine calls_of_args (args' := #[.int .i64 (rd (rd_L5 l1 x6_1) 0), .int .i64 0, .int .i64 (wrap64 ((l0.length : Int) - 1))]) (by first | with_reducible rfl | rfl) ?_; (with_reducible refine (spec_l00In.calls (rd (rd_L5 l1 x6_1) 0) 0 (wrap64 ((l0.length : Int) - 1)) true _ A7.out).mono ?_); rintro e w' ⟨rfl, ⟨nd, rfl⟩⟩; (try first | exact ⟨rfl, _, World.drewN_drewN _ _ _⟩ | exact ⟨rfl, _, Eq.trans (World.drewN_drewN _ _ _) (congrArg (World.drewN _) (Nat.add_assoc _ _ _))⟩)) | (go_at_call 155; refine calls_of_args (args' := #[.int .i64 (rd (rd_L5 l1 x6_1) 1), .int .i64 0, .int .i64 (wrap64 ((l0.length : Int) - 1))]) (by first | with_reducible rfl | rfl) ?_; (with_reducible refine (spec_l00In.calls (rd (rd_L5 l1 x6_1) 1) 0 (wrap64 ((l0.length : Int) - 1)) true _ A10.out).mono ?_); rintro e w' ⟨rfl, ⟨nd, rfl⟩⟩; (try first | exact ⟨rfl, _, World.drewN_drewN _ _ _⟩ | exact ⟨rfl, _, Eq.trans (World.drewN_drewN _ _ _) (congrArg (World.drewN _) (Nat.add_assoc _ _ _))⟩)))
     repeat (go_quiet (first | (go_at_call 155; refine calls_of_args (args' := #[.int .i64 (rd (rd_L5 l1 x6_1) 0), .int .i64 0, .int .i64 (wrap64 ((l0.length : Int) - 1))]) (by first | with_reducible rfl | rfl) ?_; (with_reducible refine (spec_l00In.calls (rd (rd_L5 l1 x6_1) 0) 0 (wrap64 ((l0.length : Int) - 1)) true _ A7.out).mono ?_); rintro e w' ⟨rfl, ⟨nd, rfl⟩⟩; (try first | exact ⟨rfl, _, World.drewN_drewN _ _ _⟩ | exact ⟨rfl, _, Eq.trans (World.drewN_drewN _ _ _) (congrArg (World.drewN _) (Nat.add_assoc _ _ _))⟩)) | (go_at_call 155; refine calls_of_args (args' := #[.int .i64 (rd (rd_L5 l1 x6_1) 1), .int .i64 0, .int .i64 (wrap64 ((l0.length : Int) - 1))]) (by first | with_reducible rfl | rfl) ?_; (with_reducible refine (spec_l00In.calls (rd (rd_L5 l1 x6_1) 1) 0 (wrap64 ((l0.length : Int) - 1)) true _ A10.out).mono ?_); rintro e w' ⟨rfl, ⟨nd, rfl⟩⟩; (try first | exact ⟨rfl, _, World.drewN_drewN _ _ _⟩ | exact ⟨rfl, _, Eq.trans (World.drewN_drewN _ _ _) (congrArg (World.drewN _) (Nat.add_assoc _ _ _))⟩))); try go_wp2_with (first | (go_at_call 155; refine calls_of_args (args' := #[.int .i64 (rd (rd_L5 l1 x6_1) 0), .int .i64 0, .int .i64 (wrap64 ((l0.length : Int) - 1))]) (by first | with_reducible rfl | rfl) ?_; (with_reducible refine (spec_l00In.calls (rd (rd_L5 l1 x6_1) 0) 0 (wrap64 ((l0.length : Int) - 1)) true _ A7.out).mono ?_); rintro e w' ⟨rfl, ⟨nd, rfl⟩⟩; (try first | exact ⟨rfl, _, World.drewN_drewN _ _ _⟩ | exact ⟨rfl, _, Eq.trans (World.drewN_drewN _ _ _) (congrArg (World.drewN _) (Nat.add_assoc _ _ _))⟩)) | (go_at_call 155; refine calls_of_args (args' := #[.int .i64 (rd (rd_L5 l1 x6_1) 1), .int .i64 0, .int .i64 (wrap64 ((l0.length : Int) - 1))]) (by first | with_reducible rfl | rfl) ?_; (with_reducible refine (spec_l00In.calls (rd (rd_L5 l1 x6_1) 1) 0 (wrap64 ((l0.length : Int) - 1)) true _ A10.out).mono ?_); rintro e w' ⟨rfl, ⟨nd, rfl⟩⟩; (try first | exact ⟨rfl, _, World.drewN_drewN _ _ _⟩ | exact ⟨rfl, _, Eq.trans (World.drewN_drewN _ _ _) (congrArg (World.drewN _) (Nat.add_assoc _ _ _))⟩))))
     go_roundg k1
     case measure => have := HK1.out; omega
     case rel => exact ⟨(wrap64 (x6_1 + 1)), (by first | rfl | (simp; done) | (simp [*]; done)), H', ⟨by have := HK1.out; omega⟩, by repeat (first | exact Drawn0.refl _ | apply Drawn0.step)⟩
    rw [if_pos c18] at H
    have c18b0 : decide (0 < x6_1) = true := decide_eq_true c18
    clear c18
    obtain ⟨ji19, hji19⟩ : ∃ j_ : Int, (wrap64 (x6_1 - 1)) = j_ := ⟨_, rfl⟩
    replace H : (if 0 ≤ (ji19) then (if (ji19) < (l1.length : Int) then (if 0 < ((rd_L5 l1 (ji19)).length : Int) then (if (rd (rd_L5 l1 (ji19)) 0) ≥ (rd (rd_L5 l1 x6_1) 0) then (some false) else (spec_l20Pairs.l0 k1 l0 l1 (wrap64 ((l0.length : Int) - 1)) (wrap64 (x6_1 + 1)))) else (none)) else (none)) else (none)) = some r := by first | (rw [hji19] at H; exact H) | (simp only [hji19] at H ⊢; exact H)
    (try rw [hji19] at A7)
    (try rw [hji19] at A10)
    have hji19w : (IntKind.i64.wrap (x6_1 - 1)) = ji19 := (i64_w _).trans hji19
    by_cases c20 : 0 ≤ (ji19)
    rotate_left
    ·rw [if_neg c20] at H
     exact absurd H (by simp)
    rw [if_pos c20] at H
    have c20b0 : decide (0 ≤ (ji19)) = true := decide_eq_true c20
    clear c20
    by_cases c21 : (ji19) < (l1.length : Int)
    rotate_left
    ·rw [if_neg c21] at H
     exact absurd H (by simp)
    rw [if_pos c21] at H
    have c21b0 : decide ((ji19) < (l1.length : Int)) = true := decide_eq_true c21
    clear c21
    by_cases c22 : 0 < ((rd_L5 l1 (ji19)).length : Int)
    rotate_left
    ·rw [if_neg c22] at H
     exact absurd H (by simp)
    rw [if_pos c22] at H
    have c22b0 : decide (0 < ((rd_L5 l1 (ji19)).length : Int)) = true := decide_eq_true c22
    have c22b1 : decide (0 < (rd_L5 l1 (ji19)).length) = true := decide_eq_true (by omega)
    clear c22
    by_cases c23 : (rd (rd_L5 l1 (ji19)) 0) ≥ (rd (rd_L5 l1 x6_1) 0)
    rotate_left
    ·rw [if_neg c23] at H
     have c23b0 : decide ((rd (rd_L5 l1 x6_1) 0) ≤ (rd (rd_L5 l1 (ji19)) 0)) = false := decide_eq_false c23
     clear c23
     have H' := Aside0.mk H
     clear H
     have p156 : 0 ≤ (x6_1 : Int) := of_decide_eq_true (by assumption)
     have q156 : x6_1 < (l1.length : Int) := of_decide_eq_true (by assumption)
     obtain ⟨ad156, A156_0, c156_0, e156, hx156_0, hl156_0, hi156_0⟩ := at_L5 HR1.out x6_1 p156 q156
     cases e156
     have HR156_0 := Aside0.mk hi156_0
     have HC156_0 := Aside0.mk hl156_0
     clear hi156_0 hl156_0
     replace p156 := eq_true p156
     replace q156 := eq_true q156
     have p157 : 0 ≤ (0 : Int) := (by omega)
     have q157 : 0 < ((rd_L5 l1 x6_1).length : Int) := of_decide_eq_true (by assumption)
     obtain ⟨ad157, e157, hx157_0⟩ := Kd.at_int HR156_0.out 0 p157 q157
     cases e157
     have qi157 : (0 < (rd_L5 l1 x6_1).length) = True := eq_true (by omega)
     (try rw [show ((0 : Int)).toNat = 0 from rfl] at hx157_0)
     (try rw [Addr.add_zero'] at hx157_0)
     replace p157 := eq_true p157
     replace q157 := eq_true q157
     have p159 : 0 ≤ (1 : Int) := (by omega)
     have q159 : 1 < ((rd_L5 l1 x6_1).length : Int) := of_decide_eq_true (by assumption)
     obtain ⟨ad159, e159, hx159_0⟩ := Kd.at_int HR156_0.out 1 p159 q159
     obtain rfl : ad157 = ad159 := (by injection e159)
     (try simp only [show (1 : Int).toNat = 1 from rfl, Nat.reduceMul, Nat.reduceEqDiff, Go.Addr.add, ↓reduceIte] at hx159_0)
     have qi159 : (1 < (rd_L5 l1 x6_1).length) = True := eq_true (by omega)
     (try rw [show ((1 : Int)).toNat = 1 from rfl] at hx159_0)
     replace p159 := eq_true p159
     replace q159 := eq_true q159
     have p161 : 0 ≤ (0 : Int) := (by omega)
     have q161 : 0 < ((rd_L5 l1 x6_1).length : Int) := of_decide_eq_true (by assumption)
     obtain ⟨ad161, e161, hx161_0⟩ := Kd.at_int HR156_0.out 0 p161 q161
     obtain rfl : ad157 = ad161 := (by injection e161)
     have qi161 : (0 < (rd_L5 l1 x6_1).length) = True := eq_true (by omega)
     (try rw [show ((0 : Int)).toNat = 0 from rfl] at hx161_0)
     (try rw [Addr.add_zero'] at hx161_0)
     replace p161 := eq_true p161
     replace q161 := eq_true q161
     have p162 : 0 ≤ (1 : Int) := (by omega)
     have q162 : 1 < ((rd_L5 l1 x6_1).length : Int) := of_decide_eq_true (by assumption)
     obtain ⟨ad162, e162, hx162_0⟩ := Kd.at_int HR156_0.out 1 p162 q162
     obtain rfl : ad157 = ad162 := (by injection e162)
     (try simp only [show (1 : Int).toNat = 1 from rfl, Nat.reduceMul, Nat.reduceEqDiff, Go.Addr.add, ↓reduceIte] at hx162_0)
     have qi162 : (1 < (rd_L5 l1 x6_1).length) = True := eq_true (by omega)
     (try rw [show ((1 : Int)).toNat = 1 from rfl] at hx162_0)
     replace p162 := eq_true p162
     replace q162 := eq_true q162
     have p163 : 0 ≤ (0 : Int) := (by omega)
     have q163 : 0 < ((rd_L5 l1 x6_1).length : Int) := of_decide_eq_true (by assumption)
     obtain ⟨ad163, e163, hx163_0⟩ := Kd.at_int HR156_0.out 0 p163 q163
     obtain rfl : ad157 = ad163 := (by injection e163)
     have qi163 : (0 < (rd_L5 l1 x6_1).length) = True := eq_true (by omega)
     (try rw [show ((0 : Int)).toNat = 0 from rfl] at hx163_0)
     (try rw [Addr.add_zero'] at hx163_0)
     replace p163 := eq_true p163
     replace q163 := eq_true q163
     have p164 : 0 ≤ ((rd (rd_L5 l1 x6_1) 0) : Int) := of_decide_eq_true (by assumption)
     have q164 : (rd (rd_L5 l1 x6_1) 0) < (l0.length : Int) := of_decide_eq_true (by assumption)
     obtain ⟨ad164, e164, hx164_0, hx164_1, hx164_2⟩ := at_T103 HR0.out (rd (rd_L5 l1 x6_1) 0) p164 q164
     cases e164
     replace p164 := eq_true p164
     replace q164 := eq_true q164
     have p165 : 0 ≤ (1 : Int) := (by omega)
     have q165 : 1 < ((rd_L5 l1 x6_1).length : Int) := of_decide_eq_true (by assumption)
     obtain ⟨ad165, e165, hx165_0⟩ := Kd.at_int HR156_0.out 1 p165 q165
     obtain rfl : ad157 = ad165 := (by injection e165)
     (try simp only [show (1 : Int).toNat = 1 from rfl, Nat.reduceMul, Nat.reduceEqDiff, Go.Addr.add, ↓reduceIte] at hx165_0)
     have qi165 : (1 < (rd_L5 l1 x6_1).length) = True := eq_true (by omega)
     (try rw [show ((1 : Int)).toNat = 1 from rfl] at hx165_0)
     replace p165 := eq_true p165
     replace q165 := eq_true q165
     have p166 : 0 ≤ ((rd (rd_L5 l1 x6_1) 1) : Int) := of_decide_eq_true (by assumption)
     have q166 : (rd (rd_L5 l1 x6_1) 1) < (l0.length : Int) := of_decide_eq_true (by assumption)
     obtain ⟨ad166, e166, hx166_0, hx166_1, hx166_2⟩ := at_T103 HR0.out (rd (rd_L5 l1 x6_1) 1) p166 q166
     obtain rfl : ad164 = ad166 := (by injection e166)
     replace p166 := eq_true p166
     replace q166 := eq_true q166
     have p167 : 0 ≤ ((ji19) : Int) := of_decide_eq_true (by assumption)
     have q167 : (ji19) < (l1.length : Int) := of_decide_eq_true (by assumption)
     obtain ⟨ad167, A167_0, c167_0, e167, hx167_0, hl167_0, hi167_0⟩ := at_L5 HR1.out (ji19) p167 q167
     obtain rfl : ad156 = ad167 := (by injection e167)
     have HR167_0 := Aside0.mk hi167_0
     have HC167_0 := Aside0.mk hl167_0
     clear hi167_0 hl167_0
     replace p167 := eq_true p167
     replace q167 := eq_true q167
     have p168 : 0 ≤ (0 : Int) := (by omega)
     have q168 : 0 < ((rd_L5 l1 (ji19)).length : Int) := of_decide_eq_true (by assumption)
     obtain ⟨ad168, e168, hx168_0⟩ := Kd.at_int HR167_0.out 0 p168 q168
     cases e168
     have qi168 : (0 < (rd_L5 l1 (ji19)).length) = True := eq_true (by omega)
     (try rw [show ((0 : Int)).toNat = 0 from rfl] at hx168_0)
     (try rw [Addr.add_zero'] at hx168_0)
     replace p168 := eq_true p168
     replace q168 := eq_true q168
     have p169 : 0 ≤ (0 : Int) := (by omega)
     have q169 : 0 < ((rd_L5 l1 x6_1).length : Int) := of_decide_eq_true (by assumption)
     obtain ⟨ad169, e169, hx169_0⟩ := Kd.at_int HR156_0.out 0 p169 q169
     obtain rfl : ad157 = ad169 := (by injection e169)
     have qi169 : (0 < (rd_L5 l1 x6_1).length) = True := eq_true (by omega)
     (try rw [show ((0 : Int)).toNat = 0 from rfl] at hx169_0)
     (try rw [Addr.add_zero'] at hx169_0)
     replace p169 := eq_true p169
     replace q169 := eq_true q169
     go_wp2_with (first | (go_at_call 155; refine calls_of_args (args' := #[.int .i64 (rd (rd_L5 l1 x6_1) 0), .int .i64 0, .int .i64 (wrap64 ((l0.length : Int) - 1))]) (by first | with_reducible rfl | rfl) ?_; (with_reducible refine (spec_l00In.calls (rd (rd_L5 l1 x6_1) 0) 0 (wrap64 ((l0.length : Int) - 1)) true _ A7.out).mono ?_); rintro e w' ⟨rfl, ⟨nd, rfl⟩⟩; (try first | exact ⟨rfl, _, World.drewN_drewN _ _ _⟩ | exact ⟨rfl, _, Eq.trans (World.drewN_drewN _ _ _) (congrArg (World.drewN _) (Nat.add_assoc _ _ _))⟩)) | (go_at_call 155; refine calls_of_args (args' := #[.int .i64 (rd (rd_L5 l1 x6_1) 1), .int .i64 0, .int .i64 (wrap64 ((l0.length : Int) - 1))]) (by first | with_reducible rfl | rfl) ?_; (with_reducible refine (spec_l00In.calls (rd (rd_L5 l1 x6_1) 1) 0 (wrap64 ((l0.length : Int) - 1)) true _ A10.out).mono ?_); rintro e w' ⟨rfl, ⟨nd, rfl⟩⟩; (try first | exact ⟨rfl, _, World.drewN_drewN _ _ _⟩ | exact ⟨rfl, _, Eq.trans (World.drewN_drewN _ _ _) (congrArg (World.drewN _) (Nat.add_assoc _ _ _))⟩)))
     repeat (go_quiet (first | (go_at_call 155; refine calls_of_args (args' := #[.int .i64 (rd (rd_L5 l1 x6_1) 0), .int .i64 0, .int .i64 (wrap64 ((l0.length : Int) - 1))]) (by first | with_reducible rfl | rfl) ?_; (with_reducible refine (spec_l00In.calls (rd (rd_L5 l1 x6_1) 0) 0 (wrap64 ((l0.length : Int) - 1)) true _ A7.out).mono ?_); rintro e w' ⟨rfl, ⟨nd, rfl⟩⟩; (try first | exact ⟨rfl, _, World.drewN_drewN _ _ _⟩ | exact ⟨rfl, _, Eq.trans (World.drewN_drewN _ _ _) (congrArg (World.drewN _) (Nat.add_assoc _ _ _))⟩)) | (go_at_call 155; refine calls_of_args (args' := #[.int .i64 (rd (rd_L5 l1 x6_1) 1), .int .i64 0, .int .i64 (wrap64 ((l0.length : Int) - 1))]) (by first | with_reducible rfl | rfl) ?_; (with_reducible refine (spec_l00In.calls (rd (rd_L5 l1 x6_1) 1) 0 (wrap64 ((l0.length : Int) - 1)) true _ A10.out).mono ?_); rintro e w' ⟨rfl, ⟨nd, rfl⟩⟩; (try first | exact ⟨rfl, _, World.drewN_drewN _ _ _⟩ | exact ⟨rfl, _, Eq.trans (World.drewN_drewN _ _ _) (congrArg (World.drewN _) (Nat.add_assoc _ _ _))⟩))); try go_wp2_with (first | (go_at_call 155; refine calls_of_args (args' := #[.int .i64 (rd (rd_L5 l1 x6_1) 0), .int .i64 0, .int .i64 (wrap64 ((l0.length : Int) - 1))]) (by first | with_reducible rfl | rfl) ?_; (with_reducible refine (spec_l00In.calls (rd (rd_L5 l1 x6_1) 0) 0 (wrap64 ((l0.length : Int) - 1)) true _ A7.out).mono ?_); rintro e w' ⟨rfl, ⟨nd, rfl⟩⟩; (try first | exact ⟨rfl, _, World.drewN_drewN _ _ _⟩ | exact ⟨rfl, _, Eq.trans (World.drewN_drewN _ _ _) (congrArg (World.drewN _) (Nat.add_assoc _ _ _))⟩)) | (go_at_call 155; refine calls_of_args (args' := #[.int .i64 (rd (rd_L5 l1 x6_1) 1), .int .i64 0, .int .i64 (wrap64 ((l0.length : Int) - 1))]) (by first | with_reducible rfl | rfl) ?_; (with_reducible refine (spec_l00In.calls (rd (rd_L5 l1 x6_1) 1) 0 (wrap64 ((l0.length : Int) - 1)) true _ A10.out).mono ?_); rintro e w' ⟨rfl, ⟨nd, rfl⟩⟩; (try first | exact ⟨rfl, _, World.drewN_drewN _ _ _⟩ | exact ⟨rfl, _, Eq.trans (World.drewN_drewN _ _ _) (congrArg (World.drewN _) (Nat.add_assoc _ _ _))⟩))))
     go_roundg k1
     case measure => have := HK1.out; omega
     case rel => exact ⟨(wrap64 (x6_1 + 1)), (by first | rfl | (simp; done) | (simp [*]; done)), H', ⟨by have := HK1.out; omega⟩, by repeat (first | exact Drawn0.refl _ | apply Drawn0.step)⟩
    rw [if_pos c23] at H
    have c23b0 : decide ((rd (rd_L5 l1 x6_1) 0) ≤ (rd (rd_L5 l1 (ji19)) 0)) = true := decide_eq_true c23
    clear c23
    obtain rfl := Option.some.inj H
    have p156 : 0 ≤ (x6_1 : Int) := of_decide_eq_true (by assumption)
    have q156 : x6_1 < (l1.length : Int) := of_decide_eq_true (by assumption)
    obtain ⟨ad156, A156_0, c156_0, e156, hx156_0, hl156_0, hi156_0⟩ := at_L5 HR1.out x6_1 p156 q156
    cases e156
    have HR156_0 := Aside0.mk hi156_0
    have HC156_0 := Aside0.mk hl156_0
    clear hi156_0 hl156_0
    replace p156 := eq_true p156
    replace q156 := eq_true q156
    have p157 : 0 ≤ (0 : Int) := (by omega)
    have q157 : 0 < ((rd_L5 l1 x6_1).length : Int) := of_decide_eq_true (by assumption)
    obtain ⟨ad157, e157, hx157_0⟩ := Kd.at_int HR156_0.out 0 p157 q157
    cases e157
    have qi157 : (0 < (rd_L5 l1 x6_1).length) = True := eq_true (by omega)
    (try rw [show ((0 : Int)).toNat = 0 from rfl] at hx157_0)
    (try rw [Addr.add_zero'] at hx157_0)
    replace p157 := eq_true p157
    replace q157 := eq_true q157
    have p159 : 0 ≤ (1 : Int) := (by omega)
    have q159 : 1 < ((rd_L5 l1 x6_1).length : Int) := of_decide_eq_true (by assumption)
    obtain ⟨ad159, e159, hx159_0⟩ := Kd.at_int HR156_0.out 1 p159 q159
    obtain rfl : ad157 = ad159 := (by injection e159)
    (try simp only [show (1 : Int).toNat = 1 from rfl, Nat.reduceMul, Nat.reduceEqDiff, Go.Addr.add, ↓reduceIte] at hx159_0)
    have qi159 : (1 < (rd_L5 l1 x6_1).length) = True := eq_true (by omega)
    (try rw [show ((1 : Int)).toNat = 1 from rfl] at hx159_0)
    replace p159 := eq_true p159
    replace q159 := eq_true q159
    have p161 : 0 ≤ (0 : Int) := (by omega)
    have q161 : 0 < ((rd_L5 l1 x6_1).length : Int) := of_decide_eq_true (by assumption)
    obtain ⟨ad161, e161, hx161_0⟩ := Kd.at_int HR156_0.out 0 p161 q161
    obtain rfl : ad157 = ad161 := (by injection e161)
    have qi161 : (0 < (rd_L5 l1 x6_1).length) = True := eq_true (by omega)
    (try rw [show ((0 : Int)).toNat = 0 from rfl] at hx161_0)
    (try rw [Addr.add_zero'] at hx161_0)
    replace p161 := eq_true p161
    replace q161 := eq_true q161
    have p162 : 0 ≤ (1 : Int) := (by omega)
    have q162 : 1 < ((rd_L5 l1 x6_1).length : Int) := of_decide_eq_true (by assumption)
    obtain ⟨ad162, e162, hx162_0⟩ := Kd.at_int HR156_0.out 1 p162 q162
    obtain rfl : ad157 = ad162 := (by injection e162)
    (try simp only [show (1 : Int).toNat = 1 from rfl, Nat.reduceMul, Nat.reduceEqDiff, Go.Addr.add, ↓reduceIte] at hx162_0)
    have qi162 : (1 < (rd_L5 l1 x6_1).length) = True := eq_true (by omega)
    (try rw [show ((1 : Int)).toNat = 1 from rfl] at hx162_0)
    replace p162 := eq_true p162
    replace q162 := eq_true q162
    have p163 : 0 ≤ (0 : Int) := (by omega)
    have q163 : 0 < ((rd_L5 l1 x6_1).length : Int) := of_decide_eq_true (by assumption)
    obtain ⟨ad163, e163, hx163_0⟩ := Kd.at_int HR156_0.out 0 p163 q163
    obtain rfl : ad157 = ad163 := (by injection e163)
    have qi163 : (0 < (rd_L5 l1 x6_1).length) = True := eq_true (by omega)
    (try rw [show ((0 : Int)).toNat = 0 from rfl] at hx163_0)
    (try rw [Addr.add_zero'] at hx163_0)
    replace p163 := eq_true p163
    replace q163 := eq_true q163
    have p164 : 0 ≤ ((rd (rd_L5 l1 x6_1) 0) : Int) := of_decide_eq_true (by assumption)
    have q164 : (rd (rd_L5 l1 x6_1) 0) < (l0.length : Int) := of_decide_eq_true (by assumption)
    obtain ⟨ad164, e164, hx164_0, hx164_1, hx164_2⟩ := at_T103 HR0.out (rd (rd_L5 l1 x6_1) 0) p164 q164
    cases e164
    replace p164 := eq_true p164
    replace q164 := eq_true q164
    have p165 : 0 ≤ (1 : Int) := (by omega)
    have q165 : 1 < ((rd_L5 l1 x6_1).length : Int) := of_decide_eq_true (by assumption)
    obtain ⟨ad165, e165, hx165_0⟩ := Kd.at_int HR156_0.out 1 p165 q165
    obtain rfl : ad157 = ad165 := (by injection e165)
    (try simp only [show (1 : Int).toNat = 1 from rfl, Nat.reduceMul, Nat.reduceEqDiff, Go.Addr.add, ↓reduceIte] at hx165_0)
    have qi165 : (1 < (rd_L5 l1 x6_1).length) = True := eq_true (by omega)
    (try rw [show ((1 : Int)).toNat = 1 from rfl] at hx165_0)
    replace p165 := eq_true p165
    replace q165 := eq_true q165
    have p166 : 0 ≤ ((rd (rd_L5 l1 x6_1) 1) : Int) := of_decide_eq_true (by assumption)
    have q166 : (rd (rd_L5 l1 x6_1) 1) < (l0.length : Int) := of_decide_eq_true (by assumption)
    obtain ⟨ad166, e166, hx166_0, hx166_1, hx166_2⟩ := at_T103 HR0.out (rd (rd_L5 l1 x6_1) 1) p166 q166
    obtain rfl : ad164 = ad166 := (by injection e166)
    replace p166 := eq_true p166
    replace q166 := eq_true q166
    have p167 : 0 ≤ ((ji19) : Int) := of_decide_eq_true (by assumption)
    have q167 : (ji19) < (l1.length : Int) := of_decide_eq_true (by assumption)
    obtain ⟨ad167, A167_0, c167_0, e167, hx167_0, hl167_0, hi167_0⟩ := at_L5 HR1.out (ji19) p167 q167
    obtain rfl : ad156 = ad167 := (by injection e167)
    have HR167_0 := Aside0.mk hi167_0
    have HC167_0 := Aside0.mk hl167_0
    clear hi167_0 hl167_0
    replace p167 := eq_true p167
    replace q167 := eq_true q167
    have p168 : 0 ≤ (0 : Int) := (by omega)
    have q168 : 0 < ((rd_L5 l1 (ji19)).length : Int) := of_decide_eq_true (by assumption)
    obtain ⟨ad168, e168, hx168_0⟩ := Kd.at_int HR167_0.out 0 p168 q168
    cases e168
    have qi168 : (0 < (rd_L5 l1 (ji19)).length) = True := eq_true (by omega)
    (try rw [show ((0 : Int)).toNat = 0 from rfl] at hx168_0)
    (try rw [Addr.add_zero'] at hx168_0)
    replace p168 := eq_true p168
    replace q168 := eq_true q168
    have p169 : 0 ≤ (0 : Int) := (by omega)
    have q169 : 0 < ((rd_L5 l1 x6_1).length : Int) := of_decide_eq_true (by assumption)
    obtain ⟨ad169, e169, hx169_0⟩ := Kd.at_int HR156_0.out 0 p169 q169
    obtain rfl : ad157 = ad169 := (by injection e169)
    have qi169 : (0 < (rd_L5 l1 x6_1).length) = True := eq_true (by omega)
    (try rw [show ((0 : Int)).toNat = 0 from rfl] at hx169_0)
    (try rw [Addr.add_zero'] at hx169_0)
    replace p169 := eq_true p169
    replace q169 := eq_true q169
    go_wp2_with (first | (go_at_call 155; refine calls_of_args (args' := #[.int .i64 (rd (rd_L5 l1 x6_1) 0), .int .i64 0, .int .i64 (wrap64 ((l0.length : Int) - 1))]) (by first | with_reducible rfl | rfl) ?_; (with_reducible refine (spec_l00In.calls (rd (rd_L5 l1 x6_1) 0) 0 (wrap64 ((l0.length : Int) - 1)) true _ A7.out).mono ?_); rintro e w' ⟨rfl, ⟨nd, rfl⟩⟩; (try first | exact ⟨rfl, _, World.drewN_drewN _ _ _⟩ | exact ⟨rfl, _, Eq.trans (World.drewN_drewN _ _ _) (congrArg (World.drewN _) (Nat.add_assoc _ _ _))⟩)) | (go_at_call 155; refine calls_of_args (args' := #[.int .i64 (rd (rd_L5 l1 x6_1) 1), .int .i64 0, .int .i64 (wrap64 ((l0.length : Int) - 1))]) (by first | with_reducible rfl | rfl) ?_; (with_reducible refine (spec_l00In.calls (rd (rd_L5 l1 x6_1) 1) 0 (wrap64 ((l0.length : Int) - 1)) true _ A10.out).mono ?_); rintro e w' ⟨rfl, ⟨nd, rfl⟩⟩; (try first | exact ⟨rfl, _, World.drewN_drewN _ _ _⟩ | exact ⟨rfl, _, Eq.trans (World.drewN_drewN _ _ _) (congrArg (World.drewN _) (Nat.add_assoc _ _ _))⟩)))
    repeat (go_quiet (first | (go_at_call 155; refine calls_of_args (args' := #[.int .i64 (rd (rd_L5 l1 x6_1) 0), .int .i64 0, .int .i64 (wrap64 ((l0.length : Int) - 1))]) (by first | with_reducible rfl | rfl) ?_; (with_reducible refine (spec_l00In.calls (rd (rd_L5 l1 x6_1) 0) 0 (wrap64 ((l0.length : Int) - 1)) true _ A7.out).mono ?_); rintro e w' ⟨rfl, ⟨nd, rfl⟩⟩; (try first | exact ⟨rfl, _, World.drewN_drewN _ _ _⟩ | exact ⟨rfl, _, Eq.trans (World.drewN_drewN _ _ _) (congrArg (World.drewN _) (Nat.add_assoc _ _ _))⟩)) | (go_at_call 155; refine calls_of_args (args' := #[.int .i64 (rd (rd_L5 l1 x6_1) 1), .int .i64 0, .int .i64 (wrap64 ((l0.length : Int) - 1))]) (by first | with_reducible rfl | rfl) ?_; (with_reducible refine (spec_l00In.calls (rd (rd_L5 l1 x6_1) 1) 0 (wrap64 ((l0.length : Int) - 1)) true _ A10.out).mono ?_); rintro e w' ⟨rfl, ⟨nd, rfl⟩⟩; (try first | exact ⟨rfl, _, World.drewN_drewN _ _ _⟩ | exact ⟨rfl, _, Eq.trans (World.drewN_drewN _ _ _) (congrArg (World.drewN _) (Nat.add_assoc _ _ _))⟩))); try go_wp2_with (first | (go_at_call 155; refine calls_of_args (args' := #[.int .i64 (rd (rd_L5 l1 x6_1) 0), .int .i64 0, .int .i64 (wrap64 ((l0.length : Int) - 1))]) (by first | with_reducible rfl | rfl) ?_; (with_reducible refine (spec_l00In.calls (rd (rd_L5 l1 x6_1) 0) 0 (wrap64 ((l0.length : Int) - 1)) true _ A7.out).mono ?_); rintro e w' ⟨rfl, ⟨nd, rfl⟩⟩; (try first | exact ⟨rfl, _, World.drewN_drewN _ _ _⟩ | exact ⟨rfl, _, Eq.trans (World.drewN_drewN _ _ _) (congrArg (World.drewN _) (Nat.add_assoc _ _ _))⟩)) | (go_at_call 155; refine calls_of_args (args' := #[.int .i64 (rd (rd_L5 l1 x6_1) 1), .int .i64 0, .int .i64 (wrap64 ((l0.length : Int) - 1))]) (by first | with_reducible rfl | rfl) ?_; (with_reducible refine (spec_l00In.calls (rd (rd_L5 l1 x6_1) 1) 0 (wrap64 ((l0.length : Int) - 1)) true _ A10.out).mono ?_); rintro e w' ⟨rfl, ⟨nd, rfl⟩⟩; (try first | exact ⟨rfl, _, World.drewN_drewN _ _ _⟩ | exact ⟨rfl, _, Eq.trans (World.drewN_drewN _ _ _) (congrArg (World.drewN _) (Nat.add_assoc _ _ _))⟩))))
    go_ret
    exact ⟨by first | rfl | (simp; done) | (simp only [← hji19] <;> (first | rfl | simp)) | (simp [*]; done), by repeat (first | exact Drawn0.refl _ | apply Drawn0.step)⟩
   rw [if_pos c12] at H
   have c12b0 : ((rd (rd_L5 l1 x6_1) 0) == (rd (rd_L5 l1 x6_1) 1)) = true := beq_iff_eq.mpr c12
   have c12b1 : ((rd (rd_L5 l1 x6_1) 0) != (rd (rd_L5 l1 x6_1) 1)) = false := bne_eq_false_iff_eq.mpr c12
   clear c12
   obtain rfl := Option.some.inj H
   have p156 : 0 ≤ (x6_1 : Int) := of_decide_eq_true (by assumption)
   have q156 : x6_1 < (l1.length : Int) := of_decide_eq_true (by assumption)
   obtain ⟨ad156, A156_0, c156_0, e156, hx156_0, hl156_0, hi156_0⟩ := at_L5 HR1.out x6_1 p156 q156
   cases e156
   have HR156_0 := Aside0.mk hi156_0
   have HC156_0 := Aside0.mk hl156_0
   clear hi156_0 hl156_0
   replace p156 := eq_true p156
   replace q156 := eq_true q156
   have p157 : 0 ≤ (0 : Int) := (by omega)
   have q157 : 0 < ((rd_L5 l1 x6_1).length : Int) := of_decide_eq_true (by assumption)
   obtain ⟨ad157, e157, hx157_0⟩ := Kd.at_int HR156_0.out 0 p157 q157
   cases e157
   have qi157 : (0 < (rd_L5 l1 x6_1).length) = True := eq_true (by omega)
   (try rw [show ((0 : Int)).toNat = 0 from rfl] at hx157_0)
   (try rw [Addr.add_zero'] at hx157_0)
   replace p157 := eq_true p157
   replace q157 := eq_true q157
   have p159 : 0 ≤ (1 : Int) := (by omega)
   have q159 : 1 < ((rd_L5 l1 x6_1).length : Int) := of_decide_eq_true (by assumption)
   obtain ⟨ad159, e159, hx159_0⟩ := Kd.at_int HR156_0.out 1 p159 q159
   obtain rfl : ad157 = ad159 := (by injection e159)
   (try simp only [show (1 : Int).toNat = 1 from rfl, Nat.reduceMul, Nat.reduceEqDiff, Go.Addr.add, ↓reduceIte] at hx159_0)
   have qi159 : (1 < (rd_L5 l1 x6_1).length) = True := eq_true (by omega)
   (try rw [show ((1 : Int)).toNat = 1 from rfl] at hx159_0)
   replace p159 := eq_true p159
   replace q159 := eq_true q159
   have p161 : 0 ≤ (0 : Int) := (by omega)
   have q161 : 0 < ((rd_L5 l1 x6_1).length : Int) := of_decide_eq_true (by assumption)
   obtain ⟨ad161, e161, hx161_0⟩ := Kd.at_int HR156_0.out 0 p161 q161
   obtain rfl : ad157 = ad161 := (by injection e161)
   have qi161 : (0 < (rd_L5 l1 x6_1).length) = True := eq_true (by omega)
   (try rw [show ((0 : Int)).toNat = 0 from rfl] at hx161_0)
   (try rw [Addr.add_zero'] at hx161_0)
   replace p161 := eq_true p161
   replace q161 := eq_true q161
   have p162 : 0 ≤ (1 : Int) := (by omega)
   have q162 : 1 < ((rd_L5 l1 x6_1).length : Int) := of_decide_eq_true (by assumption)
   obtain ⟨ad162, e162, hx162_0⟩ := Kd.at_int HR156_0.out 1 p162 q162
   obtain rfl : ad157 = ad162 := (by injection e162)
   (try simp only [show (1 : Int).toNat = 1 from rfl, Nat.reduceMul, Nat.reduceEqDiff, Go.Addr.add, ↓reduceIte] at hx162_0)
   have qi162 : (1 < (rd_L5 l1 x6_1).length) = True := eq_true (by omega)
   (try rw [show ((1 : Int)).toNat = 1 from rfl] at hx162_0)
   replace p162 := eq_true p162
   replace q162 := eq_true q162
   go_wp2_with (first | (go_at_call 155; refine calls_of_args (args' := #[.int .i64 (rd (rd_L5 l1 x6_1) 0), .int .i64 0, .int .i64 (wrap64 ((l0.length : Int) - 1))]) (by first | with_reducible rfl | rfl) ?_; (with_reducible refine (spec_l00In.calls (rd (rd_L5 l1 x6_1) 0) 0 (wrap64 ((l0.length : Int) - 1)) true _ A7.out).mono ?_); rintro e w' ⟨rfl, ⟨nd, rfl⟩⟩; (try first | exact ⟨rfl, _, World.drewN_drewN _ _ _⟩ | exact ⟨rfl, _, Eq.trans (World.drewN_drewN _ _ _) (congrArg (World.drewN _) (Nat.add_assoc _ _ _))⟩)) | (go_at_call 155; refine calls_of_args (args' := #[.int .i64 (rd (rd_L5 l1 x6_1) 1), .int .i64 0, .int .i64 (wrap64 ((l0.length : Int) - 1))]) (by first | with_reducible rfl | rfl) ?_; (with_reducible refine (spec_l00In.calls (rd (rd_L5 l1 x6_1) 1) 0 (wrap64 ((l0.length : Int) - 1)) true _ A10.out).mono ?_); rintro e w' ⟨rfl, ⟨nd, rfl⟩⟩; (try first | exact ⟨rfl, _, World.drewN_drewN _ _ _⟩ | exact ⟨rfl, _, Eq.trans (World.drewN_drewN _ _ _) (congrArg (World.drewN _) (Nat.add_assoc _ _ _))⟩)))
   repeat (go_quiet (first | (go_at_call 155; refine calls_of_args (args' := #[.int .i64 (rd (rd_L5 l1 x6_1) 0), .int .i64 0, .int .i64 (wrap64 ((l0.length : Int) - 1))]) (by first | with_reducible rfl | rfl) ?_; (with_reducible refine (spec_l00In.calls (rd (rd_L5 l1 x6_1) 0) 0 (wrap64 ((l0.length : Int) - 1)) true _ A7.out).mono ?_); rintro e w' ⟨rfl, ⟨nd, rfl⟩⟩; (try first | exact ⟨rfl, _, World.drewN_drewN _ _ _⟩ | exact ⟨rfl, _, Eq.trans (World.drewN_drewN _ _ _) (congrArg (World.drewN _) (Nat.add_assoc _ _ _))⟩)) | (go_at_call 155; refine calls_of_args (args' := #[.int .i64 (rd (rd_L5 l1 x6_1) 1), .int .i64 0, .int .i64 (wrap64 ((l0.length : Int) - 1))]) (by first | with_reducible rfl | rfl) ?_; (with_reducible refine (spec_l00In.calls (rd (rd_L5 l1 x6_1) 1) 0 (wrap64 ((l0.length : Int) - 1)) true _ A10.out).mono ?_); rintro e w' ⟨rfl, ⟨nd, rfl⟩⟩; (try first | exact ⟨rfl, _, World.drewN_drewN _ _ _⟩ | exact ⟨rfl, _, Eq.trans (World.drewN_drewN _ _ _) (congrArg (World.drewN _) (Nat.add_assoc _ _ _))⟩))); try go_wp2_with (first | (go_at_call 155; refine calls_of_args (args' := #[.int .i64 (rd (rd_L5 l1 x6_1) 0), .int .i64 0, .int .i64 (wrap64 ((l0.length : Int) - 1))]) (by first | with_reducible rfl | rfl) ?_; (with_reducible refine (spec_l00In.calls (rd (rd_L5 l1 x6_1) 0) 0 (wrap64 ((l0.length : Int) - 1)) true _ A7.out).mono ?_); rintro e w' ⟨rfl, ⟨nd, rfl⟩⟩; (try first | exact ⟨rfl, _, World.drewN_drewN _ _ _⟩ | exact ⟨rfl, _, Eq.trans (World.drewN_drewN _ _ _) (congrArg (World.drewN _) (Nat.add_assoc _ _ _))⟩)) | (go_at_call 155; refine calls_of_args (args' := #[.int .i64 (rd (rd_L5 l1 x6_1) 1), .int .i64 0, .int .i64 (wrap64 ((l0.length : Int) - 1))]) (by first | with_reducible rfl | rfl) ?_; (with_reducible refine (spec_l00In.calls (rd (rd_L5 l1 x6_1) 1) 0 (wrap64 ((l0.length : Int) - 1)) true _ A10.out).mono ?_); rintro e w' ⟨rfl, ⟨nd, rfl⟩⟩; (try first | exact ⟨rfl, _, World.drewN_drewN _ _ _⟩ | exact ⟨rfl, _, Eq.trans (World.drewN_drewN _ _ _) (congrArg (World.drewN _) (Nat.add_assoc _ _ _))⟩))))
   go_ret
   exact ⟨by first | rfl | (simp; done) | (simp [*]; done), by repeat (first | exact Drawn0.refl _ | apply Drawn0.step)⟩

/-! ### spec_l00Own: function 137 -/
def spec_l00Own.f (l0 : List Int) : Option (List Int) := (some (([] : List Int) : List Int)).bind fun y170 => (if y170.length + l0.length < 17592186044416 then (some (y170 ++ l0)) else (none))
set_option maxHeartbeats 8000000 in
set_option maxRecDepth 100000 in
theorem spec_l00Own.calls (A0 : Option Addr) (c0 : Nat) (l0 : List Int) (r : List Int) (w : World) (hr0 : Kd.C (Kd.int .i64) w A0 l0.length l0) (hc0 : l0.length ≤ c0) (h : spec_l00Own.f l0 = some r) :
  Calls Try.prog 137 #[.slice A0 l0.length c0] w fun e w' => ∃ v0_ : Value, e = .returned (v0_) ∧ Kd.R (Kd.int .i64) 2 w' w.heap.size (fun _ => True) v0_ r ∧ Below w.heap.size w w' := by
 have HR0 := Aside0.mk hr0
 have HC0 := Aside0.mk hc0
 clear hr0 hc0
 have HB := Aside0.mk (Below.refl w.heap.size w)
 have H : ((some (([] : List Int) : List Int)).bind fun y170 => (if y170.length + l0.length < 17592186044416 then (some (y170 ++ l0)) else (none))) = some r := h
 clear h
 obtain ⟨y170, hy170⟩ : ∃ y_ : List Int, y_ = (([] : List Int)) := ⟨_, rfl⟩
 replace H : (if y170.length + l0.length < 17592186044416 then (some (y170 ++ l0)) else (none)) = some r := by first | (rw [hy170]; with_reducible exact H) | (have H2_ := (Option.bind_some _ _).symm.trans H; rw [hy170]; with_reducible exact H2_) | (have H2_ := (Option.bind_some _ _).symm.trans H; with_reducible exact H2_) | with_reducible exact H | (rw [hy170]; exact H) | exact H
 have Ny170 := Aside0.mk hy170
 clear hy170
 by_cases c2 : y170.length + l0.length < 17592186044416
 rotate_left
 ·rw [if_neg c2] at H
  exact absurd H (by simp)
 rw [if_pos c2] at H
 have LMc2 := Aside0.mk c2
 clear c2
 obtain ⟨y173, hy173⟩ : ∃ y_ : List Int, y_ = (y170 ++ l0) := ⟨_, rfl⟩
 replace H : (some y173) = some r := by first | (rw [hy173]; with_reducible exact H) | (have H2_ := (Option.bind_some _ _).symm.trans H; rw [hy173]; with_reducible exact H2_) | (have H2_ := (Option.bind_some _ _).symm.trans H; with_reducible exact H2_) | with_reducible exact H | (rw [hy173]; exact H) | exact H
 have Ny173 := Aside0.mk hy173
 clear hy173
 obtain rfl := Option.some.inj H
 go_enter Try.func137, Try.ntmps137
 go_wp2_with (first | ((with_reducible refine gate_dst (N := 3) rfl ?_); refine Kd.R_lit (Kd.int .i64) _ 2 ?hg (N := 3) ?hd (xs := ([] : List Int)) (inner := []) (ok := fun _ => True) (okp := fun _ => True) ?hr ?hp (fun _ hk => hk) trivial (Below.refl _ _) (Nat.le_refl _) (by simp) ?_; (case hd => rfl); (case hg => rfl); (case hr => first | (go_simp; done) | (go_simp; rfl)); (case hp => exact (Reps.none _ _)); intro v171 w3 ho4 hb hg_ hnew_; clear hg_ hnew_; (first | rw [← Ny170.out] at ho4 | (simp only [Int.reduceToNat] at ho4; rw [← Ny170.out] at ho4)); have n0_ := Aside0.mk (Kd.R_lower ho4 (below_size (by repeat (first | exact HB.out | apply below_alloc | apply pw_below_drewN | apply below_drew1)))); have n1_ := Aside0.mk (below_step (by repeat (first | exact HB.out | apply below_alloc | apply pw_below_drewN | apply below_drew1)) hb); clear HB; have HO172 := n0_; have HB := n1_; clear n0_ n1_; clear hb ho4) | ((with_reducible refine gate_builtin (b := .append) (xs := #[.tmp 3, .tmp 4]) rfl ?_); at_builtin; refine Kd.R_append_rows (Kd.int .i64) (w0 := w) w.heap.size rfl (.tmp 3) (.tmp 4) 23 2 (.int .i64 0) 8 rfl Try.underlying23 info2 rfl (by decide) (by omega) v171 y170 l0 _ _ _ (fun _ => True) (fun _ => False) rfl rfl ?aO ?aR (fun _ _ h => h) (fun _ h => h.elim) ?aF ?aB ?aS ?aL ?_; (case aR => exact (Kd.C_below HR0.out HB.out)); (case aB => exact (by repeat (first | exact HB.out | apply below_alloc | apply pw_below_drewN | apply below_drew1))); (case aF => exact (fun _ _ => trivial)); (case aO => exact (by exact HO172.out)); (case aS => exact (below_size (by repeat (first | exact HB.out | apply below_alloc | apply pw_below_drewN | apply below_drew1)))); (case aL => have := LMc2.out; omega); intro v174 w5 ho hb hg hat; rw [← Ny173.out] at ho; have n0_ := Aside0.mk (hb); have n1_ := Aside0.mk (ho); clear HB; clear HO172; have HB := n0_; have HO175 := n1_; clear n0_ n1_; clear ho hb hg hat))
 go_ret
 exact ⟨_, by first | rfl | (simp [errW_none, errW_some] <;> rfl) | (simp [*, errW_none, errW_some] <;> rfl), by exact HO175.out, by repeat (first | exact HB.out | apply below_alloc | apply pw_below_drewN | apply below_drew1)⟩

end Go.Proofs.Ytfledgccnaknpaa.PFnExactClosedForm
