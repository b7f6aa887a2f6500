-- written by xprint.py, a program of this repo over the kit's print; not trusted: Lean checks it
import Derived.Test.YtagjleeckbnddaaPFnThemesx0
import Derived.Test.YtagjleeckbnddaaPFnThemesx5
import Derived.Test.YtagjleeckbnddaaPFnThemesx13
namespace Go.Proofs.Ytagjleeckbnddaa.PFnThemes
open Go.RowKit Go.Proofs.YtagjleeckbnddaaW.PrintWords Go.Proofs.YtagjleeckbnddaaW.PrintLast Go.Proofs.YtagjleeckbnddaaW.PrintMore
attribute [local go_sem] max2_int min2_int max_two min_two max_three min_three max_four min_four   -- for this text's walks alone
set_option linter.unusedVariables false
set_option linter.unusedSimpArgs false

/-! ### impl_closed: function 67 -/
mutual
def impl_closed.l0 : Nat → List (List Int) → List Int → List Int → Int → Int → Option (List Int)
 | 0, _, _, _, _, _ => none
 | k + 1, x1, x5, x12, x13, x14 => if x14 < x13 then (if 0 ≤ x14 then (if x14 < (x12.length : Int) then (impl_closed.l1 k x1 x5 x14 (rd x12 x14) x12 x13 x14 x1 (x1.length : Int) 0) else (none)) else (none)) else (some x5)
def impl_closed.l1 : Nat → List (List Int) → List Int → Int → Int → List Int → Int → Int → List (List Int) → Int → Int → Option (List Int)
 | 0, _, _, _, _, _, _, _, _, _, _ => none
 | k + 1, x1, x5, x6, x7, x12, x13, x14, x19, x20, x21 => if x21 < x20 then (if 0 ≤ x21 then (if x21 < (x19.length : Int) then (if 0 < ((rd_L4 x19 x21).length : Int) then (if (rd (rd_L4 x19 x21) 0) = x7 then (if 1 < ((rd_L4 x19 x21).length : Int) then (if 0 ≤ x6 then (if x6 < (x5.length : Int) then (impl_closed.l1 k x1 (x5.set (x6 : Int).toNat (rd (rd_L4 x19 x21) 1)) x6 x7 x12 x13 x14 x19 x20 (wrap64 (x21 + 1))) else (none)) else (none)) else (none)) else (impl_closed.l1 k x1 x5 x6 x7 x12 x13 x14 x19 x20 (wrap64 (x21 + 1)))) else (none)) else (none)) else (none)) else (impl_closed.l0 k x1 x5 x12 x13 (wrap64 (x14 + 1)))
end
def impl_closed.f (k : Nat) (l0 : List Int) (l1 : List (List Int)) : Option (List Int) := (slices_Clone_int64_int64.f l0).bind fun t425 => (impl_closed.l0 k l1 t425 l0 (l0.length : Int) 0)
theorem impl_closed.mono_l : ∀ k, (∀ y0 y1 y2 y3 y4, LeO (impl_closed.l0 k y0 y1 y2 y3 y4) (impl_closed.l0 (k + 1) y0 y1 y2 y3 y4)) ∧ (∀ y0 y1 y2 y3 y4 y5 y6 y7 y8 y9, LeO (impl_closed.l1 k y0 y1 y2 y3 y4 y5 y6 y7 y8 y9) (impl_closed.l1 (k + 1) y0 y1 y2 y3 y4 y5 y6 y7 y8 y9))
 | 0 => ⟨fun _ _ _ _ _ r h => by simp [impl_closed.l0] at h, fun _ _ _ _ _ _ _ _ _ _ r h => by simp [impl_closed.l1] at h⟩
 | k + 1 => by
  obtain ⟨ih0, ih1⟩ := impl_closed.mono_l k
  refine ⟨?_, ?_⟩
  ·intro y0 y1 y2 y3 y4
   unfold impl_closed.l0
   repeat' first
   | (with_reducible exact ih0 _ _ _ _ _)
   | (with_reducible exact ih1 _ _ _ _ _ _ _ _ _ _)
   | (with_reducible exact LeO.refl _)
   | (with_reducible exact LeO.none _)
   | (with_reducible refine LeO.ite ?_ ?_)
   | (with_reducible refine LeO.bind ?_ (fun _ => ?_))
   | exact ih0 _ _ _ _ _
   | exact ih1 _ _ _ _ _ _ _ _ _ _
   | exact LeO.none _
   | refine LeO.ite ?_ ?_
   | refine LeO.bind ?_ (fun _ => ?_)
  ·intro y0 y1 y2 y3 y4 y5 y6 y7 y8 y9
   unfold impl_closed.l1
   repeat' first
   | (with_reducible exact ih0 _ _ _ _ _)
   | (with_reducible exact ih1 _ _ _ _ _ _ _ _ _ _)
   | (with_reducible exact LeO.refl _)
   | (with_reducible exact LeO.none _)
   | (with_reducible refine LeO.ite ?_ ?_)
   | (with_reducible refine LeO.bind ?_ (fun _ => ?_))
   | exact ih0 _ _ _ _ _
   | exact ih1 _ _ _ _ _ _ _ _ _ _
   | exact LeO.none _
   | refine LeO.ite ?_ ?_
   | refine LeO.bind ?_ (fun _ => ?_)
theorem impl_closed.mono : ∀ a0 a1 k, LeO (impl_closed.f k a0 a1) (impl_closed.f (k + 1) a0 a1) := by
 intro a0 a1 k;obtain ⟨ih0, ih1⟩ := impl_closed.mono_l k;unfold impl_closed.f
 repeat' first
   | (with_reducible exact ih0 _ _ _ _ _)
   | (with_reducible exact ih1 _ _ _ _ _ _ _ _ _ _)
   | (with_reducible exact LeO.refl _)
   | (with_reducible exact LeO.none _)
   | (with_reducible refine LeO.ite ?_ ?_)
   | (with_reducible refine LeO.bind ?_ (fun _ => ?_))
   | exact ih0 _ _ _ _ _
   | exact ih1 _ _ _ _ _ _ _ _ _ _
   | exact LeO.none _
   | refine LeO.ite ?_ ?_
   | refine LeO.bind ?_ (fun _ => ?_)
set_option maxHeartbeats 8000000 in
set_option maxRecDepth 100000 in
theorem impl_closed.calls (k : Nat) (A0 : Option Addr) (c0 : Nat) (l0 : List Int) (A1 : Option Addr) (c1 : Nat) (l1 : List (List Int)) (r : List Int) (w : World) (hr0 : Kd.C (Kd.int .i64) w A0 l0.length l0) (hc0 : l0.length ≤ c0) (hr1 : Kd.C (Kd.slice 2 (Kd.int .i64)) w A1 l1.length l1) (hc1 : l1.length ≤ c1) (h : impl_closed.f k l0 l1 = some r) :
  Calls Try.prog 67 #[.slice A0 l0.length c0, .slice A1 l1.length c1] w fun e w' => ∃ v0_ : Value, e = .returned (v0_) ∧ Kd.R (Kd.int .i64) 2 w' w.heap.size (fun _ => True) v0_ r ∧ Below w.heap.size w w' := by
 have HR0 := Aside0.mk hr0;have HC0 := Aside0.mk hc0;clear hr0 hc0;have HR1 := Aside0.mk hr1;have HC1 := Aside0.mk hc1;clear hr1 hc1;have HB := Aside0.mk (Below.refl w.heap.size w);have H : ((slices_Clone_int64_int64.f l0).bind fun t425 => (impl_closed.l0 k l1 t425 l0 (l0.length : Int) 0)) = some r := h;clear h;replace H := Option.bind_eq_some_iff.mp H;obtain ⟨t425, A30, H⟩ := H;replace H : (impl_closed.l0 k l1 t425 l0 (l0.length : Int) 0) = some r := H;have A3 := Aside0.mk A30;clear A30;have H' := Aside0.mk H;clear H;go_enter Try.func67, Try.ntmps67;go_wp2_with (first | ((with_reducible refine gate_callee (f := 50) rfl ?_); refine goesL_ (some 11) rfl rfl Try.func50 (by kernel_rfl) rfl #[.slice A0 l0.length c0] rfl (by (try simp only [List.map_toArray, List.map]); try rfl) ?_; (with_reducible refine (slices_Clone_int64_int64.calls _ _ l0 t425 _ ?side1 ?side2 A3.out).mono ?_); (case side1 => exact HR0.out); (case side2 => exact HC0.out); rintro e w4 ⟨v426, rfl, ho0, hb⟩; refine ⟨_, rfl, ?_⟩; have n0_ := Aside0.mk (Kd.R_lower ho0 (below_size (by repeat (first | exact HB.out | apply below_alloc | apply pw_below_drewN | apply below_drew1)))); have n1_ := Aside0.mk (below_step (by repeat (first | exact HB.out | apply below_alloc | apply pw_below_drewN | apply below_drew1)) hb); clear HB; have HO427 := n0_; have HB := n1_; clear n0_ n1_; (try clear hb); (try clear hb2); (try clear hk); (try clear hi); (try clear ho0)));go_loopg [14] k (fun kq v14 w' => ∃ (x5_1 : List Int) (x14_1 : Int), v14 = .int .i64 x14_1 ∧ Aside0 (impl_closed.l0 kq l1 x5_1 l0 (l0.length : Int) x14_1 = some r) ∧ Aside0 (kq ≤ k) ∧ Aside0 (Kd.R (Kd.int .i64) 2 w' w.heap.size (fun _ => True) v426 x5_1) ∧ Aside0 (Below w.heap.size w w'))
 case atStart => exact ⟨(t425), (0), (by first | rfl | (simp; done) | (simp [*]; done)), H', ⟨Nat.le_refl _⟩, ⟨by exact HO427.out⟩, ⟨by repeat (first | exact HB.out | apply below_alloc | apply pw_below_drewN | apply below_drew1)⟩⟩
 case round =>
  clear H';(try clear c1);(try clear p2);obtain ⟨x5_1, x14_1, rfl, HA, HK1, HO_5, HB⟩ := hrel
  cases gk with
  | zero => exact absurd HA.out (by simp [impl_closed.l0])
  | succ k1 =>
   have H := HA.out;clear HA;simp only [impl_closed.l0] at H;by_cases c5 : x14_1 < (l0.length : Int);rotate_left
   ·rw [if_neg c5] at H
    have c5b0 : decide (x14_1 < (l0.length : Int)) = false := decide_eq_false c5;clear c5;obtain rfl := Option.some.inj H;go_wp2;go_ret;exact ⟨_, by first | rfl | (simp [errW_none, errW_some] <;> rfl) | (simp [*, errW_none, errW_some] <;> rfl), by exact HO_5.out, by repeat (first | exact HB.out | apply below_alloc | apply pw_below_drewN | apply below_drew1)⟩
   rw [if_pos c5] at H;have c5b0 : decide (x14_1 < (l0.length : Int)) = true := decide_eq_true c5;clear c5;by_cases c6 : 0 ≤ x14_1;rotate_left
   ·rw [if_neg c6] at H
    exact absurd H (by simp)
   rw [if_pos c6] at H;have c6b0 : decide (0 ≤ x14_1) = true := decide_eq_true c6;clear c6;by_cases c7 : x14_1 < (l0.length : Int);rotate_left
   ·rw [if_neg c7] at H
    exact absurd H (by simp)
   rw [if_pos c7] at H;have c7b0 : decide (x14_1 < (l0.length : Int)) = true := decide_eq_true c7;clear c7;have H' := Aside0.mk H;clear H;have p428 : 0 ≤ (x14_1 : Int) := of_decide_eq_true (by assumption);have q428 : x14_1 < (l0.length : Int) := of_decide_eq_true (by assumption);obtain ⟨ad428, e428, hx428_0⟩ := Kd.at_int HR0.out x14_1 p428 q428
   cases e428
   replace hx428_0 := (HB.out.cell (World.block_lt_of_cell? w _ hx428_0)).trans hx428_0;replace p428 := eq_true p428;replace q428 := eq_true q428;go_wp2;go_loopg [21] k1 (fun kq v21 w' => ∃ (x5_2 : List Int) (x21_2 : Int), v21 = .int .i64 x21_2 ∧ Aside0 (impl_closed.l1 kq l1 x5_2 x14_1 (rd l0 x14_1) l0 (l0.length : Int) x14_1 l1 (l1.length : Int) x21_2 = some r) ∧ Aside0 (kq ≤ k1) ∧ Aside0 (Kd.R (Kd.int .i64) 2 w' w.heap.size (fun _ => True) v426 x5_2) ∧ Aside0 (Below w.heap.size w w'))
   case atStart => exact ⟨(x5_1), (0), (by first | rfl | (simp; done) | (simp [*]; done)), H', ⟨Nat.le_refl _⟩, ⟨by exact HO_5.out⟩, ⟨by repeat (first | exact HB.out | apply below_alloc | apply pw_below_drewN | apply below_drew1)⟩⟩
   case round =>
    clear H';(try clear c1);(try clear p2);(try clear p4);(try clear q4);(try clear hx4);(try clear c5);(try clear c5b0);(try clear c6);(try clear c6b0);(try clear c7);(try clear c7b0);(try clear hx428_0);(try clear p2);(try clear p428);(try clear q428);obtain ⟨x5_2, x21_2, rfl, HA, HK2, HO_5, HB⟩ := hrel
    cases gk with
    | zero => exact absurd HA.out (by simp [impl_closed.l1])
    | succ k2 =>
     have H := HA.out;clear HA;simp only [impl_closed.l1] at H;by_cases c8 : x21_2 < (l1.length : Int);rotate_left
     ·rw [if_neg c8] at H
      have c8b0 : decide (x21_2 < (l1.length : Int)) = false := decide_eq_false c8;clear c8;have H' := Aside0.mk H;clear H;go_wp2;go_roundg k2
      case measure => have := HK1.out; have := HK2.out; omega
      case rel => exact ⟨(x5_2), (wrap64 (x14_1 + 1)), (by first | rfl | (simp; done) | (simp [*]; done)), H', ⟨by have := HK1.out; have := HK2.out; omega⟩, ⟨by exact HO_5.out⟩, ⟨by repeat (first | exact HB.out | apply below_alloc | apply pw_below_drewN | apply below_drew1)⟩⟩
     rw [if_pos c8] at H;have c8b0 : decide (x21_2 < (l1.length : Int)) = true := decide_eq_true c8;clear c8;by_cases c9 : 0 ≤ x21_2;rotate_left
     ·rw [if_neg c9] at H
      exact absurd H (by simp)
     rw [if_pos c9] at H;have c9b0 : decide (0 ≤ x21_2) = true := decide_eq_true c9;clear c9;by_cases c10 : x21_2 < (l1.length : Int);rotate_left
     ·rw [if_neg c10] at H
      exact absurd H (by simp)
     rw [if_pos c10] at H;have c10b0 : decide (x21_2 < (l1.length : Int)) = true := decide_eq_true c10;clear c10;by_cases c11 : 0 < ((rd_L4 l1 x21_2).length : Int);rotate_left
     ·rw [if_neg c11] at H
      exact absurd H (by simp)
     rw [if_pos c11] at H;have c11b0 : decide (0 < ((rd_L4 l1 x21_2).length : Int)) = true := decide_eq_true c11;have c11b1 : decide (0 < (rd_L4 l1 x21_2).length) = true := decide_eq_true (by omega);clear c11;by_cases c12 : (rd (rd_L4 l1 x21_2) 0) = (rd l0 x14_1);rotate_left
     ·rw [if_neg c12] at H
      have c12b0 : ((rd (rd_L4 l1 x21_2) 0) == (rd l0 x14_1)) = false := beq_eq_false_iff_ne.mpr c12;have c12b1 : ((rd (rd_L4 l1 x21_2) 0) != (rd l0 x14_1)) = true := bne_iff_ne.mpr c12;have H' := Aside0.mk H;clear H;have p429 : 0 ≤ (x21_2 : Int) := of_decide_eq_true (by assumption);have q429 : x21_2 < (l1.length : Int) := of_decide_eq_true (by assumption);obtain ⟨ad429, A429_0, c429_0, e429, hx429_0, hl429_0, hi429_0⟩ := at_L4 HR1.out x21_2 p429 q429
      cases e429
      replace hx429_0 := (HB.out.cell (World.block_lt_of_cell? w _ hx429_0)).trans hx429_0;have HR429_0 := Aside0.mk hi429_0;have HC429_0 := Aside0.mk hl429_0;clear hi429_0 hl429_0;replace p429 := eq_true p429;replace q429 := eq_true q429;have p430 : 0 ≤ (0 : Int) := (by omega);have q430 : 0 < ((rd_L4 l1 x21_2).length : Int) := of_decide_eq_true (by assumption);obtain ⟨ad430, e430, hx430_0⟩ := Kd.at_int HR429_0.out 0 p430 q430
      cases e430
      have qi430 : (0 < (rd_L4 l1 x21_2).length) = True := eq_true (by omega);(try rw [show ((0 : Int)).toNat = 0 from rfl] at hx430_0);(try rw [Addr.add_zero'] at hx430_0);replace hx430_0 := (HB.out.cell (World.block_lt_of_cell? w _ hx430_0)).trans hx430_0;replace p430 := eq_true p430;replace q430 := eq_true q430;go_wp2;go_roundg k2
      case measure => have := HK1.out; have := HK2.out; omega
      case rel => exact ⟨(x5_2), (wrap64 (x21_2 + 1)), (by first | rfl | (simp; done) | (simp [*]; done)), H', ⟨by have := HK1.out; have := HK2.out; omega⟩, ⟨by exact HO_5.out⟩, ⟨by repeat (first | exact HB.out | apply below_alloc | apply pw_below_drewN | apply below_drew1)⟩⟩
     rw [if_pos c12] at H;have c12b0 : ((rd (rd_L4 l1 x21_2) 0) == (rd l0 x14_1)) = true := beq_iff_eq.mpr c12;have c12b1 : ((rd (rd_L4 l1 x21_2) 0) != (rd l0 x14_1)) = false := bne_eq_false_iff_eq.mpr c12;clear c12;by_cases c13 : 1 < ((rd_L4 l1 x21_2).length : Int);rotate_left
     ·rw [if_neg c13] at H
      exact absurd H (by simp)
     rw [if_pos c13] at H;have c13b0 : decide (1 < ((rd_L4 l1 x21_2).length : Int)) = true := decide_eq_true c13;have c13b1 : decide (1 < (rd_L4 l1 x21_2).length) = true := decide_eq_true (by omega);clear c13;by_cases c14 : 0 ≤ x14_1;rotate_left
     ·rw [if_neg c14] at H
      exact absurd H (by simp)
     rw [if_pos c14] at H;have c14b0 : decide (0 ≤ x14_1) = true := decide_eq_true c14;clear c14;by_cases c15 : x14_1 < (x5_2.length : Int);rotate_left
     ·rw [if_neg c15] at H
      exact absurd H (by simp)
     rw [if_pos c15] at H;have c15b0 : decide (x14_1 < (x5_2.length : Int)) = true := decide_eq_true c15;clear c15;obtain ⟨y432, hy432⟩ : ∃ y_ : List Int, y_ = (x5_2.set (x14_1 : Int).toNat (rd (rd_L4 l1 x21_2) 1)) := ⟨_, rfl⟩
     replace H : (impl_closed.l1 k2 l1 y432 x14_1 (rd l0 x14_1) l0 (l0.length : Int) x14_1 l1 (l1.length : Int) (wrap64 (x21_2 + 1))) = some r := by first | (rw [hy432]; with_reducible exact H) | (have H2_ := (Option.bind_some _ _).symm.trans H; rw [hy432]; with_reducible exact H2_) | (have H2_ := (Option.bind_some _ _).symm.trans H; with_reducible exact H2_) | with_reducible exact H | (rw [hy432]; exact H) | exact H
     have Ny432 := Aside0.mk hy432;clear hy432;have H' := Aside0.mk H;clear H;have p429 : 0 ≤ (x21_2 : Int) := of_decide_eq_true (by assumption);have q429 : x21_2 < (l1.length : Int) := of_decide_eq_true (by assumption);obtain ⟨ad429, A429_0, c429_0, e429, hx429_0, hl429_0, hi429_0⟩ := at_L4 HR1.out x21_2 p429 q429
     cases e429
     replace hx429_0 := (HB.out.cell (World.block_lt_of_cell? w _ hx429_0)).trans hx429_0;have HR429_0 := Aside0.mk hi429_0;have HC429_0 := Aside0.mk hl429_0;clear hi429_0 hl429_0;replace p429 := eq_true p429;replace q429 := eq_true q429;have p430 : 0 ≤ (0 : Int) := (by omega);have q430 : 0 < ((rd_L4 l1 x21_2).length : Int) := of_decide_eq_true (by assumption);obtain ⟨ad430, e430, hx430_0⟩ := Kd.at_int HR429_0.out 0 p430 q430
     cases e430
     have qi430 : (0 < (rd_L4 l1 x21_2).length) = True := eq_true (by omega);(try rw [show ((0 : Int)).toNat = 0 from rfl] at hx430_0);(try rw [Addr.add_zero'] at hx430_0);replace hx430_0 := (HB.out.cell (World.block_lt_of_cell? w _ hx430_0)).trans hx430_0;replace p430 := eq_true p430;replace q430 := eq_true q430;have p431 : 0 ≤ (1 : Int) := (by omega);have q431 : 1 < ((rd_L4 l1 x21_2).length : Int) := of_decide_eq_true (by assumption);obtain ⟨ad431, e431, hx431_0⟩ := Kd.at_int HR429_0.out 1 p431 q431;obtain rfl : ad430 = ad431 := (by injection e431);(try simp only [show (1 : Int).toNat = 1 from rfl, Nat.reduceMul, Nat.reduceEqDiff, Go.Addr.add, ↓reduceIte] at hx431_0);have qi431 : (1 < (rd_L4 l1 x21_2).length) = True := eq_true (by omega);(try rw [show ((1 : Int)).toNat = 1 from rfl] at hx431_0);replace hx431_0 := (HB.out.cell (World.block_lt_of_cell? w _ hx431_0)).trans hx431_0;replace p431 := eq_true p431;replace q431 := eq_true q431;have p16 : 0 ≤ (x14_1 : Int) := of_decide_eq_true (by assumption);have q16 : (x14_1 : Int) < ((x5_2.length : Int) : Int) := of_decide_eq_true (by assumption);obtain ⟨go16, co16, eo16, gb16, gl16, cl16, HG16⟩ := Kd.R_form HO_5.out (by omega);(first | cases eo16 | (injection eo16 with ea_ en_ ec_; (first | subst ea_ | (injection ea_ with ea_; subst ea_)); subst ec_; clear en_));have GB16 := Aside0.mk gb16;have GG16 := Aside0.mk HG16;clear gb16 gl16 HG16;obtain ⟨hx16_0, hf16_0⟩ := Kd.R_celln 0 HO_5.out (x14_1 : Int) p16 q16;replace p16 := eq_true p16;replace q16 := eq_true q16
     have HP17 := Kd.R_putg HO_5.out (x14_1 : Int) (rd (rd_L4 l1 x21_2) 1);go_wp2_with (first | ((with_reducible refine gate_store (t := 2) (p := 35) rfl ?_); refine store_event (t := 2) (p := 35) (v := ?vo_w18) (w1 := (wr.setCell ⟨go16, (x14_1 : Int).toNat, none⟩ (.int .i64 (rd (rd_L4 l1 x21_2) 1)))) ?hg ?ho ?hn ?hr ?_; (case ho => rfl); (case hg => rfl); (case hn => rfl); (case hr => first | (go_simp; done) | (go_simp; rfl)); intro w18 hw; have hg : wr.grownBy w18 (some go16) := (by rw [hw]; exact HP17.2); have hp_ : Kd.R (Kd.int .i64) 2 w18 w.heap.size (fun _ => True) (.slice (some ⟨go16, 0, none⟩) x5_2.length co16) y432 := (by rw [hw, Ny432.out]; exact HP17.1); clear HP17; have n0_ := Aside0.mk (hp_); have n1_ := Aside0.mk ((by rw [hw]; exact below_set (HB.out) GB16.out : Below w.heap.size w w18)); clear HO_5; clear HB; have HO_5 := n0_; have HB := n1_; clear n0_ n1_; clear hg hw hp_));go_roundg k2
     case measure => have := HK1.out; have := HK2.out; omega
     case rel => exact ⟨(y432), (wrap64 (x21_2 + 1)), (by first | rfl | (simp; done) | (simp [*]; done)), H', ⟨by have := HK1.out; have := HK2.out; omega⟩, ⟨by exact HO_5.out⟩, ⟨by repeat (first | exact HB.out | apply below_alloc | apply pw_below_drewN | apply below_drew1)⟩⟩

/-! ### impl_ClosedForm: function 17 -/
def impl_ClosedForm.f (k : Nat) (l0 : List (S93)) (l1 : List Int) (l2 : List (List Int)) : Option (List Int × Int) := (impl_themeCode.f k l0 l1 1).bind fun t433 => (if t433 = 0 then ((impl_pairsOk.f k l0 l2).bind fun t434 => (if t434 = true then ((impl_closed.f k l1 l2).bind fun t435 => (some (t435, 0))) else (some (([] : List Int), 7)))) else (some (([] : List Int), t433)))
theorem impl_ClosedForm.mono : ∀ a0 a1 a2 k, LeO (impl_ClosedForm.f k a0 a1 a2) (impl_ClosedForm.f (k + 1) a0 a1 a2) := by
 intro a0 a1 a2 k;unfold impl_ClosedForm.f
 repeat' first
   | (with_reducible exact impl_closed.mono _ _ _)
   | (with_reducible exact impl_pairsOk.mono _ _ _)
   | (with_reducible exact impl_themeCode.mono _ _ _ _)
   | (with_reducible exact LeO.refl _)
   | (with_reducible exact LeO.none _)
   | (with_reducible refine LeO.ite ?_ ?_)
   | (with_reducible refine LeO.bind ?_ (fun _ => ?_))
   | exact impl_closed.mono _ _ _
   | exact impl_pairsOk.mono _ _ _
   | exact impl_themeCode.mono _ _ _ _
   | exact LeO.none _
   | refine LeO.ite ?_ ?_
   | refine LeO.bind ?_ (fun _ => ?_)
set_option maxHeartbeats 8000000 in
set_option maxRecDepth 100000 in
theorem impl_ClosedForm.calls (k : Nat) (A0 : Option Addr) (c0 : Nat) (l0 : List (S93)) (A1 : Option Addr) (c1 : Nat) (l1 : List Int) (A2 : Option Addr) (c2 : Nat) (l2 : List (List Int)) (r1 : List Int) (r2 : Int) (w : World) (hr0 : Kd.C k93 w A0 l0.length l0) (hc0 : l0.length ≤ c0) (hr1 : Kd.C (Kd.int .i64) w A1 l1.length l1) (hc1 : l1.length ≤ c1) (hr2 : Kd.C (Kd.slice 2 (Kd.int .i64)) w A2 l2.length l2) (hc2 : l2.length ≤ c2) (h : impl_ClosedForm.f k l0 l1 l2 = some (r1, r2)) :
  Calls Try.prog 17 #[.slice A0 l0.length c0, .slice A1 l1.length c1, .slice A2 l2.length c2] w fun e w' => ∃ v0_ : Value, e = .returned (.tuple #[v0_, .int .i64 r2]) ∧ Kd.R (Kd.int .i64) 2 w' w.heap.size (fun _ => True) v0_ r1 ∧ Below w.heap.size w w' := by
 have HR0 := Aside0.mk hr0;have HC0 := Aside0.mk hc0;clear hr0 hc0;have HR1 := Aside0.mk hr1;have HC1 := Aside0.mk hc1;clear hr1 hc1;have HR2 := Aside0.mk hr2;have HC2 := Aside0.mk hc2;clear hr2 hc2;have HB := Aside0.mk (Below.refl w.heap.size w);have H : ((impl_themeCode.f k l0 l1 1).bind fun t433 => (if t433 = 0 then ((impl_pairsOk.f k l0 l2).bind fun t434 => (if t434 = true then ((impl_closed.f k l1 l2).bind fun t435 => (some (t435, 0))) else (some (([] : List Int), 7)))) else (some (([] : List Int), t433)))) = some (r1, r2) := h;clear h;replace H := Option.bind_eq_some_iff.mp H;obtain ⟨t433, A40, H⟩ := H;replace H : (if t433 = 0 then ((impl_pairsOk.f k l0 l2).bind fun t434 => (if t434 = true then ((impl_closed.f k l1 l2).bind fun t435 => (some (t435, 0))) else (some (([] : List Int), 7)))) else (some (([] : List Int), t433))) = some (r1, r2) := H;have A4 := Aside0.mk A40;clear A40;by_cases c5 : t433 = 0;rotate_left
 ·rw [if_neg c5] at H
  have c5b0 : (t433 == 0) = false := beq_eq_false_iff_ne.mpr c5;have c5b1 : (t433 != 0) = true := bne_iff_ne.mpr c5;simp only [Option.some.injEq, Prod.mk.injEq] at H;obtain ⟨rfl, rfl⟩ := H;go_enter Try.func17, Try.ntmps17;go_wp2_with (first | ((with_reducible refine gate_callee (f := 49) rfl ?_); refine goesL_ (some 11) rfl rfl Try.func49 (by kernel_rfl) rfl #[.slice A0 l0.length c0, .slice A1 l1.length c1, .int .i64 1] rfl (by (try simp only [List.map_toArray, List.map]); try rfl) ?_; (with_reducible refine (impl_themeCode.calls k _ _ l0 _ _ l1 1 t433 _ ?side1 ?side2 ?side3 ?side4 A4.out).mono ?_); (case side1 => exact HR0.out); (case side2 => exact HC0.out); (case side3 => exact HR1.out); (case side4 => exact HC1.out); rintro e w14 ⟨rfl, hb⟩; refine ⟨_, rfl, ?_⟩; have n0_ := Aside0.mk (below_step (by repeat (first | exact HB.out | apply below_alloc | apply pw_below_drewN | apply below_drew1)) hb); clear HB; have HB := n0_; clear n0_; (try clear hb); (try clear hb2); (try clear hk); (try clear hi)));go_ret2;exact ⟨_, by first | rfl | (simp [errW_none, errW_some] <;> rfl) | (simp [*, errW_none, errW_some] <;> rfl), by first | exact Kd.R_nil _ _ _ _ _ | exact Kd.N_nil _ _ _ _ _ | exact Kd.V_nil _ _ _ _ _ | exact Kd.Q_nil _ _ _ _ _ | exact Kd.S_nil _ _ _ _ _, by repeat (first | exact HB.out | apply below_alloc | apply pw_below_drewN | apply below_drew1)⟩
 rw [if_pos c5] at H;have c5b0 : (t433 == 0) = true := beq_iff_eq.mpr c5;have c5b1 : (t433 != 0) = false := bne_eq_false_iff_eq.mpr c5;clear c5;replace H := Option.bind_eq_some_iff.mp H;obtain ⟨t434, A60, H⟩ := H;replace H : (if t434 = true then ((impl_closed.f k l1 l2).bind fun t435 => (some (t435, 0))) else (some (([] : List Int), 7))) = some (r1, r2) := H;have A6 := Aside0.mk A60;clear A60;by_cases c7 : t434 = true;rotate_left
 ·replace c7 := Bool.eq_false_iff.mpr c7
  subst c7
  have H1 : (some (([] : List Int), 7)) = some (r1, r2) := by rw [if_neg (show ¬ (false = true) by decide)] at H; exact H
  clear H;have H := H1;clear H1;simp only [Option.some.injEq, Prod.mk.injEq] at H;obtain ⟨rfl, rfl⟩ := H;go_enter Try.func17, Try.ntmps17;go_wp2_with (first | ((with_reducible refine gate_callee (f := 49) rfl ?_); refine goesL_ (some 11) rfl rfl Try.func49 (by kernel_rfl) rfl #[.slice A0 l0.length c0, .slice A1 l1.length c1, .int .i64 1] rfl (by (try simp only [List.map_toArray, List.map]); try rfl) ?_; (with_reducible refine (impl_themeCode.calls k _ _ l0 _ _ l1 1 t433 _ ?side1 ?side2 ?side3 ?side4 A4.out).mono ?_); (case side1 => exact HR0.out); (case side2 => exact HC0.out); (case side3 => exact HR1.out); (case side4 => exact HC1.out); rintro e w12 ⟨rfl, hb⟩; refine ⟨_, rfl, ?_⟩; have n0_ := Aside0.mk (below_step (by repeat (first | exact HB.out | apply below_alloc | apply pw_below_drewN | apply below_drew1)) hb); clear HB; have HB := n0_; clear n0_; (try clear hb); (try clear hb2); (try clear hk); (try clear hi)) | ((with_reducible refine gate_callee (f := 66) rfl ?_); refine goesL_ (some 19) rfl rfl Try.func66 (by kernel_rfl) rfl #[.slice A0 l0.length c0, .slice A2 l2.length c2] rfl (by (try simp only [List.map_toArray, List.map]); try rfl) ?_; (with_reducible refine (impl_pairsOk.calls k _ _ l0 _ _ l2 false _ ?side1 ?side2 ?side3 ?side4 A6.out).mono ?_); (case side1 => exact (Kd.C_below HR0.out HB.out)); (case side2 => exact HC0.out); (case side3 => exact (Kd.C_below HR2.out HB.out)); (case side4 => exact HC2.out); rintro e w13 ⟨rfl, hb⟩; refine ⟨_, rfl, ?_⟩; have n0_ := Aside0.mk (below_step (by repeat (first | exact HB.out | apply below_alloc | apply pw_below_drewN | apply below_drew1)) hb); clear HB; have HB := n0_; clear n0_; (try clear hb); (try clear hb2); (try clear hk); (try clear hi)))
  go_ret2;exact ⟨_, by first | rfl | (simp [errW_none, errW_some] <;> rfl) | (simp [*, errW_none, errW_some] <;> rfl), by first | exact Kd.R_nil _ _ _ _ _ | exact Kd.N_nil _ _ _ _ _ | exact Kd.V_nil _ _ _ _ _ | exact Kd.Q_nil _ _ _ _ _ | exact Kd.S_nil _ _ _ _ _, by repeat (first | exact HB.out | apply below_alloc | apply pw_below_drewN | apply below_drew1)⟩
 subst c7
 have H1 : ((impl_closed.f k l1 l2).bind fun t435 => (some (t435, 0))) = some (r1, r2) := by rw [if_pos rfl] at H; exact H
 clear H;have H := H1;clear H1;replace H := Option.bind_eq_some_iff.mp H;obtain ⟨t435, A80, H⟩ := H;replace H : (some (t435, 0)) = some (r1, r2) := H;have A8 := Aside0.mk A80;clear A80;simp only [Option.some.injEq, Prod.mk.injEq] at H;obtain ⟨rfl, rfl⟩ := H;go_enter Try.func17, Try.ntmps17;go_wp2_with (first | ((with_reducible refine gate_callee (f := 49) rfl ?_); refine goesL_ (some 11) rfl rfl Try.func49 (by kernel_rfl) rfl #[.slice A0 l0.length c0, .slice A1 l1.length c1, .int .i64 1] rfl (by (try simp only [List.map_toArray, List.map]); try rfl) ?_; (with_reducible refine (impl_themeCode.calls k _ _ l0 _ _ l1 1 t433 _ ?side1 ?side2 ?side3 ?side4 A4.out).mono ?_); (case side1 => exact HR0.out); (case side2 => exact HC0.out); (case side3 => exact HR1.out); (case side4 => exact HC1.out); rintro e w9 ⟨rfl, hb⟩; refine ⟨_, rfl, ?_⟩; have n0_ := Aside0.mk (below_step (by repeat (first | exact HB.out | apply below_alloc | apply pw_below_drewN | apply below_drew1)) hb); clear HB; have HB := n0_; clear n0_; (try clear hb); (try clear hb2); (try clear hk); (try clear hi)) | ((with_reducible refine gate_callee (f := 66) rfl ?_); refine goesL_ (some 19) rfl rfl Try.func66 (by kernel_rfl) rfl #[.slice A0 l0.length c0, .slice A2 l2.length c2] rfl (by (try simp only [List.map_toArray, List.map]); try rfl) ?_; (with_reducible refine (impl_pairsOk.calls k _ _ l0 _ _ l2 true _ ?side1 ?side2 ?side3 ?side4 A6.out).mono ?_); (case side1 => exact (Kd.C_below HR0.out HB.out)); (case side2 => exact HC0.out); (case side3 => exact (Kd.C_below HR2.out HB.out)); (case side4 => exact HC2.out); rintro e w10 ⟨rfl, hb⟩; refine ⟨_, rfl, ?_⟩; have n0_ := Aside0.mk (below_step (by repeat (first | exact HB.out | apply below_alloc | apply pw_below_drewN | apply below_drew1)) hb); clear HB; have HB := n0_; clear n0_; (try clear hb); (try clear hb2); (try clear hk); (try clear hi)) | ((with_reducible refine gate_callee (f := 67) rfl ?_); refine goesL_ (some 23) rfl rfl Try.func67 (by kernel_rfl) rfl #[.slice A1 l1.length c1, .slice A2 l2.length c2] rfl (by (try simp only [List.map_toArray, List.map]); try rfl) ?_; (with_reducible refine (impl_closed.calls k _ _ l1 _ _ l2 t435 _ ?side1 ?side2 ?side3 ?side4 A8.out).mono ?_); (case side1 => exact (Kd.C_below HR1.out HB.out)); (case side2 => exact HC1.out); (case side3 => exact (Kd.C_below HR2.out HB.out)); (case side4 => exact HC2.out); rintro e w11 ⟨v436, rfl, ho0, hb⟩; refine ⟨_, rfl, ?_⟩; have n0_ := Aside0.mk (Kd.R_lower ho0 (below_size (by repeat (first | exact HB.out | apply below_alloc | apply pw_below_drewN | apply below_drew1)))); have n1_ := Aside0.mk (below_step (by repeat (first | exact HB.out | apply below_alloc | apply pw_below_drewN | apply below_drew1)) hb); clear HB; have HO437 := n0_; have HB := n1_; clear n0_ n1_; (try clear hb); (try clear hb2); (try clear hk); (try clear hi); (try clear ho0)))
 go_ret2;exact ⟨_, by first | rfl | (simp [errW_none, errW_some] <;> rfl) | (simp [*, errW_none, errW_some] <;> rfl), by exact HO437.out, by repeat (first | exact HB.out | apply below_alloc | apply pw_below_drewN | apply below_drew1)⟩

/-! ### slices_Grow_int64_int64: function 104, by hand -/
def growLays_ren : Go.Shelf.Ren := ⟨fun | 4 => 104 | n => n, fun | 22 => 25 | 25 => 2 | 3 => 3 | 4 => 4 | 9 => 9 | 20 => 20 | 0 => 0 | n => n, fun | n => n⟩
theorem growLays : Go.Proofs.Lays8.n4 Try.prog growLays_ren := {
 mixed := by kernel_rfl,
 f4 := ⟨Try.f104.name, by decide, Try.func104.trans (congrArg some (by kernel_rfl))⟩,
 t0 := Try.underlying0,
 a0 := Try.isAgg0,
 z0 := Try.sizeOf0,
 v0 := Try.zeroValue0,
 t3 := Try.underlying3,
 a3 := Try.isAgg3,
 z3 := Try.sizeOf3,
 v3 := Try.zeroValue3,
 t4 := Try.underlying4,
 a4 := Try.isAgg4,
 z4 := Try.sizeOf4,
 v4 := Try.zeroValue4,
 t9 := Try.underlying9,
 a9 := Try.isAgg9,
 z9 := Try.sizeOf9,
 v9 := Try.zeroValue9,
 t20 := Try.underlying20,
 a20 := Try.isAgg20,
 z20 := Try.sizeOf20,
 v20 := Try.zeroValue20,
 t22 := Try.underlying25,
 a22 := Try.isAgg25,
 z22 := Try.sizeOf25,
 v22 := Try.zeroValue25 }

theorem grown_row {w : World} {arr : Array Value} {C base : Nat} (hC : C ≤ maxLen) (hs : arr.size = C) (hb : base ≤ w.heap.size) : (w.drew.alloc (.cells arr 2)).ownsRow base 2 1 (.slice (some ⟨w.heap.size, 0, none⟩) 0 C) 0 [] :=
 ⟨rfl, .inr ⟨w.heap.size, C, arr, rfl, hb, Array.getElem?_push_size (xs := w.drew.heap) (x := .cells arr 2), Nat.zero_le _, hC, by rw [hs, Nat.mul_one], by simp⟩⟩
def slices_Grow_int64_int64.f (l0 : List Int) (a1 : Int) : Option (List Int) := if l0.length = 0 ∧ 0 ≤ a1 ∧ a1 < 8796093022208 then some [] else none
set_option maxHeartbeats 8000000 in
set_option maxRecDepth 100000 in
theorem slices_Grow_int64_int64.calls (P0_ : Nat → Prop) (u9000_ : Value) (l0 : List Int) (a1 : Int) (r : List Int) (w0 w : World) (hB : Below w0.heap.size w0 w) (ho0 : Kd.R (Kd.int .i64) 2 w w0.heap.size P0_ u9000_ l0) (h : slices_Grow_int64_int64.f l0 a1 = some r) :
  Calls Try.prog 104 #[u9000_, .int .i64 a1] w fun e w' => ∃ v0_ : Value, e = .returned (v0_) ∧ Kd.R (Kd.int .i64) 2 w' w0.heap.size (fun k_ => (P0_ k_ ∨ w.heap.size ≤ k_)) v0_ r ∧ Below w0.heap.size w0 w' ∧ Kept w w' (fun k_ => P0_ k_) := by
 have H : (if l0.length = 0 ∧ 0 ≤ a1 ∧ a1 < 8796093022208 then some [] else none) = some r := h;by_cases c : l0.length = 0 ∧ 0 ≤ a1 ∧ a1 < 8796093022208
 ·rw [if_pos c] at H
  obtain rfl := Option.some.inj H;obtain ⟨c1, c2, c3⟩ := c;obtain rfl : l0 = [] := List.length_eq_zero_iff.1 c1;obtain ⟨n, rfl⟩ := Int.eq_ofNat_of_zero_le c2
  have hn : n < 8796093022208 := by omega
  obtain ⟨i0, hi, hz0, hz1, hz2⟩ := info_parts info2;have ho := Kd.own_of_R ho0
  have fresh : ∀ (base : Option Addr) (c : Nat) (cs : List Value), c < 0 + n → cs.length = c * i0.size → (base = none → c = 0) → (∀ a, base = some a → ∀ j v, cs[j]? = some v → w.cell? (a.add j) = some v) → Calls Try.prog 104 #[.slice base 0 c, .int .i64 (n : Int)] w fun e w' => ∃ v0_ : Value, e = .returned (v0_) ∧ Kd.R (Kd.int .i64) 2 w' w0.heap.size (fun k_ => (P0_ k_ ∨ w.heap.size ≤ k_)) v0_ [] ∧ Below w0.heap.size w0 w' ∧ Kept w w' (fun k_ => P0_ k_) := by
   intro base c cs h1 h2 h3 h4;refine (Any8.slices_Grow_grow growLays i0 (.int .i64 0) hi hz0 (by rw [hz1]; decide) base 0 c n cs w (Nat.zero_le _) h1 (by rw [hz2]; omega) (by omega) h2 h3 h4).mono ?_;rintro e w' ⟨rfl, rfl⟩;have hg := grownCap_ge w (0 + n) c 2;have hgm := grownCap_le_maxLen w (0 + n) c 2 (by simp only [maxLen]; omega);refine ⟨_, rfl, Kd.R_of_own (grown_row hgm ?_ hB.size) (fun k hk => .inr ?_), below_alloc (below_drew hB) _, ?_⟩
   ·have hsz : ∀ m, (Builtin.zeroCells (Value.int .i64 0).cells m).size = m := fun m => by rw [size_zeroCells]; simp [Value.cells]
    have key : ∀ C', C' = grownCap w (0 + n) c 2 → (cs.toArray ++ Builtin.zeroCells (Value.int .i64 0).cells (0 + n - c) ++ Builtin.zeroCells (Value.int .i64 0).cells (C' - (0 + n))).size = grownCap w (0 + n) c 2 := by
     intro C' hC;rw [Array.size_append, Array.size_append, hsz, hsz, List.size_toArray, h2, hz1, hC];omega
    exact key _ rfl
   ·have : w.heap.size = k := by simpa [Value.ownBlock] using hk
    omega
   ·exact Kept.alloc (Kept.drew (Kept.refl _ _)) _
  rcases ho.2 with ⟨rfl, _⟩ | ⟨g, cap, cur, rfl, hg, hb, h1, h2, h3, h4⟩
  ·by_cases h0 : n = 0
   ·subst h0
    refine (Any8.slices_Grow_room growLays none 0 0 0 w (Nat.le_refl _) (by omega) (by omega) (by omega)).mono ?_;rintro e w' ⟨rfl, rfl⟩;exact ⟨_, rfl, Kd.R_mono ho0 (fun k hk => .inl hk), hB, Kept.refl _ _⟩
   ·exact fresh none 0 [] (by omega) (by simp) (fun _ => rfl) (fun a e => by cases e)
  ·have hsz : cur.toList.length = cap * i0.size := by rw [hz1, Array.length_toList]; exact h3
   by_cases h0 : n ≤ cap
   ·refine (Any8.slices_Grow_room growLays (some ⟨g, 0, none⟩) 0 cap n w (Nat.zero_le _) (by simp only [maxLen] at h2; omega) (by omega) (by omega)).mono ?_
    rintro e w' ⟨rfl, rfl⟩;exact ⟨_, rfl, Kd.R_mono ho0 (fun k hk => .inl hk), hB, Kept.refl _ _⟩
   ·refine fresh (some ⟨g, 0, none⟩) cap cur.toList (by omega) hsz (fun e => by cases e) (fun a e j v hj => ?_)
    cases e
    rw [add_at, Nat.zero_add];simpa [World.cell?, hb] using hj
 ·rw [if_neg c] at H
  exact absurd H (by simp)

/-! ### slices_Concat_int64_int64: function 65 -/
mutual
def slices_Concat_int64_int64.l0 : Nat → List (List Int) → Int → List (List Int) → Int → Int → Option (List Int)
 | 0, _, _, _, _, _ => none
 | k + 1, x0, x3, x9, x10, x11 => if x11 < x10 then (if 0 ≤ x11 then (if x11 < (x9.length : Int) then (if (wrap64 (x3 + ((rd_L4 x9 x11).length : Int))) < 0 then (none) else (slices_Concat_int64_int64.l0 k x0 (wrap64 (x3 + ((rd_L4 x9 x11).length : Int))) x9 x10 (wrap64 (x11 + 1)))) else (none)) else (none)) else ((slices_Grow_int64_int64.f ([] : List Int) x3).bind fun t439 => (slices_Concat_int64_int64.l1 k t439 x0 (x0.length : Int) 0))
def slices_Concat_int64_int64.l1 : Nat → List Int → List (List Int) → Int → Int → Option (List Int)
 | 0, _, _, _, _ => none
 | k + 1, x6, x25, x26, x27 => if x27 < x26 then (if 0 ≤ x27 then (if x27 < (x25.length : Int) then (if x6.length + (rd_L4 x25 x27).length < 17592186044416 then (slices_Concat_int64_int64.l1 k (x6 ++ (rd_L4 x25 x27)) x25 x26 (wrap64 (x27 + 1))) else (none)) else (none)) else (none)) else (some x6)
end
def slices_Concat_int64_int64.f (k : Nat) (l0 : List (List Int)) : Option (List Int) := slices_Concat_int64_int64.l0 k l0 0 l0 (l0.length : Int) 0
theorem slices_Concat_int64_int64.mono_l : ∀ k, (∀ y0 y1 y2 y3 y4, LeO (slices_Concat_int64_int64.l0 k y0 y1 y2 y3 y4) (slices_Concat_int64_int64.l0 (k + 1) y0 y1 y2 y3 y4)) ∧ (∀ y0 y1 y2 y3, LeO (slices_Concat_int64_int64.l1 k y0 y1 y2 y3) (slices_Concat_int64_int64.l1 (k + 1) y0 y1 y2 y3))
 | 0 => ⟨fun _ _ _ _ _ r h => by simp [slices_Concat_int64_int64.l0] at h, fun _ _ _ _ r h => by simp [slices_Concat_int64_int64.l1] at h⟩
 | k + 1 => by
  obtain ⟨ih0, ih1⟩ := slices_Concat_int64_int64.mono_l k
  refine ⟨?_, ?_⟩
  ·intro y0 y1 y2 y3 y4
   unfold slices_Concat_int64_int64.l0
   repeat' first
   | (with_reducible exact ih0 _ _ _ _ _)
   | (with_reducible exact ih1 _ _ _ _)
   | (with_reducible exact LeO.refl _)
   | (with_reducible exact LeO.none _)
   | (with_reducible refine LeO.ite ?_ ?_)
   | (with_reducible refine LeO.bind ?_ (fun _ => ?_))
   | exact ih0 _ _ _ _ _
   | exact ih1 _ _ _ _
   | exact LeO.none _
   | refine LeO.ite ?_ ?_
   | refine LeO.bind ?_ (fun _ => ?_)
  ·intro y0 y1 y2 y3
   unfold slices_Concat_int64_int64.l1
   repeat' first
   | (with_reducible exact ih0 _ _ _ _ _)
   | (with_reducible exact ih1 _ _ _ _)
   | (with_reducible exact LeO.refl _)
   | (with_reducible exact LeO.none _)
   | (with_reducible refine LeO.ite ?_ ?_)
   | (with_reducible refine LeO.bind ?_ (fun _ => ?_))
   | exact ih0 _ _ _ _ _
   | exact ih1 _ _ _ _
   | exact LeO.none _
   | refine LeO.ite ?_ ?_
   | refine LeO.bind ?_ (fun _ => ?_)
theorem slices_Concat_int64_int64.mono : ∀ a0 k, LeO (slices_Concat_int64_int64.f k a0) (slices_Concat_int64_int64.f (k + 1) a0) := by
 intro a0 k;obtain ⟨ih0, ih1⟩ := slices_Concat_int64_int64.mono_l k;unfold slices_Concat_int64_int64.f
 repeat' first
   | (with_reducible exact ih0 _ _ _ _ _)
   | (with_reducible exact ih1 _ _ _ _)
   | (with_reducible exact LeO.refl _)
   | (with_reducible exact LeO.none _)
   | (with_reducible refine LeO.ite ?_ ?_)
   | (with_reducible refine LeO.bind ?_ (fun _ => ?_))
   | exact ih0 _ _ _ _ _
   | exact ih1 _ _ _ _
   | exact LeO.none _
   | refine LeO.ite ?_ ?_
   | refine LeO.bind ?_ (fun _ => ?_)
set_option maxHeartbeats 8000000 in
set_option maxRecDepth 100000 in
theorem slices_Concat_int64_int64.calls (k : Nat) (A0 : Option Addr) (c0 : Nat) (l0 : List (List Int)) (r : List Int) (w : World) (hr0 : Kd.C (Kd.slice 2 (Kd.int .i64)) w A0 l0.length l0) (hc0 : l0.length ≤ c0) (h : slices_Concat_int64_int64.f k l0 = some r) :
  Calls Try.prog 65 #[.slice A0 l0.length c0] w fun e w' => ∃ v0_ : Value, e = .returned (v0_) ∧ Kd.R (Kd.int .i64) 2 w' w.heap.size (fun _ => True) v0_ r ∧ Below w.heap.size w w' := by
 have HR0 := Aside0.mk hr0;have HC0 := Aside0.mk hc0;clear hr0 hc0;have HB := Aside0.mk (Below.refl w.heap.size w);have H : (slices_Concat_int64_int64.l0 k l0 0 l0 (l0.length : Int) 0) = some r := h;clear h;have H' := Aside0.mk H;clear H;go_enter Try.func65, Try.ntmps65;go_wp2;go_loopg [3, 11] k (fun kq v3 v11 w' => ∃ (x3_1 : Int) (x11_1 : Int), v3 = .int .i64 x3_1 ∧ v11 = .int .i64 x11_1 ∧ Aside0 (slices_Concat_int64_int64.l0 kq l0 x3_1 l0 (l0.length : Int) x11_1 = some r) ∧ Aside0 (kq ≤ k) ∧ Aside0 (Below w.heap.size w w'))
 case atStart => exact ⟨(0), (0), (by first | rfl | (simp; done) | (simp [*]; done)), (by first | rfl | (simp; done) | (simp [*]; done)), H', ⟨Nat.le_refl _⟩, ⟨by repeat (first | exact HB.out | apply below_alloc | apply pw_below_drewN | apply below_drew1)⟩⟩
 case round =>
  clear H';obtain ⟨x3_1, x11_1, rfl, rfl, HA, HK1, HB⟩ := hrel
  cases gk with
  | zero => exact absurd HA.out (by simp [slices_Concat_int64_int64.l0])
  | succ k1 =>
   have H := HA.out;clear HA;simp only [slices_Concat_int64_int64.l0] at H;by_cases c2 : x11_1 < (l0.length : Int);rotate_left
   ·rw [if_neg c2] at H
    have c2b0 : decide (x11_1 < (l0.length : Int)) = false := decide_eq_false c2;clear c2;replace H := Option.bind_eq_some_iff.mp H;obtain ⟨t439, A60, H⟩ := H;replace H : (slices_Concat_int64_int64.l1 k1 t439 l0 (l0.length : Int) 0) = some r := H;have A6 := Aside0.mk A60;clear A60;have H' := Aside0.mk H;clear H;go_wp2_with (first | ((with_reducible refine gate_callee (f := 104) rfl ?_); refine goesL_ (some 24) rfl rfl Try.func104 (by kernel_rfl) rfl #[.slice none 0 0, .int .i64 x3_1] rfl (by (try simp only [List.map_toArray, List.map]); try rfl) ?_; (refine (slices_Grow_int64_int64.calls (fun k_ => some k_ = (.slice none 0 0 : Value).ownBlock) (.slice none 0 0) ([] : List Int) x3_1 t439 w _ ?side1 ?side2 A6.out).mono ?_); (case side1 => repeat (first | exact HB.out | apply below_alloc | apply pw_below_drewN | apply below_drew1)); (case side2 => exact Kd.R_nil _ _ _ _ _); rintro e w7 ⟨v440, rfl, ho0, hb, hkp⟩; refine ⟨_, rfl, ?_⟩; have n0_ := Aside0.mk (Kd.R_mono (ok' := fun k_ => True) ho0 (fun k_ hk_ => trivial)); have n1_ := Aside0.mk (hb); clear HB; have HO441 := n0_; have HB := n1_; clear n0_ n1_; (try clear hb); (try clear hkp); (try clear ho0)));go_loopg [6, 27] k1 (fun kq v6 v27 w' => ∃ (x6_2 : List Int) (x27_2 : Int), v27 = .int .i64 x27_2 ∧ Aside0 (slices_Concat_int64_int64.l1 kq x6_2 l0 (l0.length : Int) x27_2 = some r) ∧ Aside0 (kq ≤ k1) ∧ Aside0 (Kd.R (Kd.int .i64) 2 w' w.heap.size (fun _ => True) v6 x6_2) ∧ Aside0 (Below w.heap.size w w'))
    case atStart => exact ⟨(t439), (0), (by first | rfl | (simp; done) | (simp [*]; done)), H', ⟨Nat.le_refl _⟩, ⟨by exact HO441.out⟩, ⟨by repeat (first | exact HB.out | apply below_alloc | apply pw_below_drewN | apply below_drew1)⟩⟩
    case round =>
     clear H';(try clear c1);(try clear c2);(try clear c2b0);(try clear p2);(try clear c3);(try clear c3b0);(try clear c4);(try clear c4b0);(try clear p4);(try clear q4);(try clear hx4);(try clear c5);(try clear c5b0);(try clear c6);(try clear p6);(try clear hx438_0);(try clear p438);(try clear q438);obtain ⟨x6_2, x27_2, rfl, HA, HK2, HO_6, HB⟩ := hrel
     cases gk with
     | zero => exact absurd HA.out (by simp [slices_Concat_int64_int64.l1])
     | succ k2 =>
      have H := HA.out;clear HA;simp only [slices_Concat_int64_int64.l1] at H;by_cases c8 : x27_2 < (l0.length : Int);rotate_left
      ·rw [if_neg c8] at H
       have c8b0 : decide (x27_2 < (l0.length : Int)) = false := decide_eq_false c8;clear c8;obtain rfl := Option.some.inj H;go_wp2;go_ret;exact ⟨_, by first | rfl | (simp [errW_none, errW_some] <;> rfl) | (simp [*, errW_none, errW_some] <;> rfl), by exact HO_6.out, by repeat (first | exact HB.out | apply below_alloc | apply pw_below_drewN | apply below_drew1)⟩
      rw [if_pos c8] at H;have c8b0 : decide (x27_2 < (l0.length : Int)) = true := decide_eq_true c8;clear c8;by_cases c9 : 0 ≤ x27_2;rotate_left
      ·rw [if_neg c9] at H
       exact absurd H (by simp)
      rw [if_pos c9] at H;have c9b0 : decide (0 ≤ x27_2) = true := decide_eq_true c9;clear c9;by_cases c10 : x27_2 < (l0.length : Int);rotate_left
      ·rw [if_neg c10] at H
       exact absurd H (by simp)
      rw [if_pos c10] at H;have c10b0 : decide (x27_2 < (l0.length : Int)) = true := decide_eq_true c10;clear c10;by_cases c11 : x6_2.length + (rd_L4 l0 x27_2).length < 17592186044416;rotate_left
      ·rw [if_neg c11] at H
       exact absurd H (by simp)
      rw [if_pos c11] at H;have LMc11 := Aside0.mk c11;clear c11;obtain ⟨y443, hy443⟩ : ∃ y_ : List Int, y_ = (x6_2 ++ (rd_L4 l0 x27_2)) := ⟨_, rfl⟩
      replace H : (slices_Concat_int64_int64.l1 k2 y443 l0 (l0.length : Int) (wrap64 (x27_2 + 1))) = some r := by first | (rw [hy443]; with_reducible exact H) | (have H2_ := (Option.bind_some _ _).symm.trans H; rw [hy443]; with_reducible exact H2_) | (have H2_ := (Option.bind_some _ _).symm.trans H; with_reducible exact H2_) | with_reducible exact H | (rw [hy443]; exact H) | exact H
      have Ny443 := Aside0.mk hy443;clear hy443;have H' := Aside0.mk H;clear H;have p442 : 0 ≤ (x27_2 : Int) := of_decide_eq_true (by assumption);have q442 : x27_2 < (l0.length : Int) := of_decide_eq_true (by assumption);obtain ⟨ad442, A442_0, c442_0, e442, hx442_0, hl442_0, hi442_0⟩ := at_L4 HR0.out x27_2 p442 q442
      cases e442
      replace hx442_0 := (HB.out.cell (World.block_lt_of_cell? w _ hx442_0)).trans hx442_0;have HR442_0 := Aside0.mk hi442_0;have HC442_0 := Aside0.mk hl442_0;clear hi442_0 hl442_0;replace p442 := eq_true p442;replace q442 := eq_true q442;go_wp2_with (first | ((with_reducible refine gate_builtin (b := .append) (xs := #[.tmp 31, .tmp 32]) rfl ?_); at_builtin; refine Kd.R_append_rows (Kd.int .i64) (w0 := w) w.heap.size rfl (.tmp 31) (.tmp 32) 25 2 (.int .i64 0) 8 rfl Try.underlying25 info2 rfl (by decide) (by omega) u6 x6_2 (rd_L4 l0 x27_2) _ _ _ (fun _ => True) (fun _ => False) rfl rfl ?aO ?aR (fun _ _ h => h) (fun _ h => h.elim) ?aF ?aB ?aS ?aL ?_; (case aR => exact (Kd.C_below HR442_0.out HB.out)); (case aB => exact (by repeat (first | exact HB.out | apply below_alloc | apply pw_below_drewN | apply below_drew1))); (case aF => exact (fun _ _ => trivial)); (case aO => exact (by exact HO_6.out)); (case aS => exact (below_size (by repeat (first | exact HB.out | apply below_alloc | apply pw_below_drewN | apply below_drew1)))); (case aL => have := LMc11.out; omega); intro v444 w12 ho hb hg hat; rw [← Ny443.out] at ho; have n0_ := Aside0.mk (hb); have n1_ := Aside0.mk (ho); clear HB; clear HO_6; have HB := n0_; have HO445 := n1_; clear n0_ n1_; clear ho hb hg hat));go_roundg k2
      case measure => have := HK1.out; have := HK2.out; omega
      case rel => exact ⟨(y443), (wrap64 (x27_2 + 1)), (by first | rfl | (simp; done) | (simp [*]; done)), H', ⟨by have := HK1.out; have := HK2.out; omega⟩, ⟨by exact HO445.out⟩, ⟨by repeat (first | exact HB.out | apply below_alloc | apply pw_below_drewN | apply below_drew1)⟩⟩
   rw [if_pos c2] at H;have c2b0 : decide (x11_1 < (l0.length : Int)) = true := decide_eq_true c2;clear c2;by_cases c3 : 0 ≤ x11_1;rotate_left
   ·rw [if_neg c3] at H
    exact absurd H (by simp)
   rw [if_pos c3] at H;have c3b0 : decide (0 ≤ x11_1) = true := decide_eq_true c3;clear c3;by_cases c4 : x11_1 < (l0.length : Int);rotate_left
   ·rw [if_neg c4] at H
    exact absurd H (by simp)
   rw [if_pos c4] at H;have c4b0 : decide (x11_1 < (l0.length : Int)) = true := decide_eq_true c4;clear c4;by_cases c5 : (wrap64 (x3_1 + ((rd_L4 l0 x11_1).length : Int))) < 0;rotate_left
   ·rw [if_neg c5] at H
    have c5b0 : decide ((wrap64 (x3_1 + ((rd_L4 l0 x11_1).length : Int))) < 0) = false := decide_eq_false c5;clear c5;have H' := Aside0.mk H;clear H;have p438 : 0 ≤ (x11_1 : Int) := of_decide_eq_true (by assumption);have q438 : x11_1 < (l0.length : Int) := of_decide_eq_true (by assumption);obtain ⟨ad438, A438_0, c438_0, e438, hx438_0, hl438_0, hi438_0⟩ := at_L4 HR0.out x11_1 p438 q438
    cases e438
    replace hx438_0 := (HB.out.cell (World.block_lt_of_cell? w _ hx438_0)).trans hx438_0;have HR438_0 := Aside0.mk hi438_0;have HC438_0 := Aside0.mk hl438_0;clear hi438_0 hl438_0;replace p438 := eq_true p438;replace q438 := eq_true q438;go_wp2;go_roundg k1
    case measure => have := HK1.out; omega
    case rel => exact ⟨(wrap64 (x3_1 + ((rd_L4 l0 x11_1).length : Int))), (wrap64 (x11_1 + 1)), (by first | rfl | (simp; done) | (simp [*]; done)), (by first | rfl | (simp; done) | (simp [*]; done)), H', ⟨by have := HK1.out; omega⟩, ⟨by repeat (first | exact HB.out | apply below_alloc | apply pw_below_drewN | apply below_drew1)⟩⟩
   rw [if_pos c5] at H;exact absurd H (by simp)

end Go.Proofs.Ytagjleeckbnddaa.PFnThemes
