-- written by xprint.py, a program of this repo over the kit's print; not trusted: Lean checks it
import Derived.Test.YtagjleeckbnddaaPFnThemesx0
import Derived.Test.YtagjleeckbnddaaPFnThemesx5
import Derived.Test.YtagjleeckbnddaaPFnThemesx6
import Derived.Test.YtagjleeckbnddaaPFnThemesx7
namespace Go.Proofs.Ytagjleeckbnddaa.PFnThemes
open Go.RowKit Go.Proofs.YtagjleeckbnddaaW.PrintWords Go.Proofs.YtagjleeckbnddaaW.PrintLast Go.Proofs.YtagjleeckbnddaaW.PrintMore
attribute [local go_sem] max2_int min2_int max_two min_two max_three min_three max_four min_four   -- for this text's walks alone
set_option linter.unusedVariables false
set_option linter.unusedSimpArgs false

open List renaming setIfInBounds_toArray → s0_, set_cons_zero → s1_, set_cons_succ → s2_
/-! ### impl_SwapBlocks: function 13 -/
mutual
def impl_SwapBlocks.j0 : Nat → List Int → List (List Int) → Bool → Option (List Int × Int)
 | 0, _, _, _ => none
 | k + 1, x3, x11, x35 => if x35 = true then (some (([] : List Int), 7)) else (impl_SwapBlocks.l0 k x11 ([] : List Int) x3 (x3.length : Int) 0)
def impl_SwapBlocks.l0 : Nat → List (List Int) → List Int → List Int → Int → Int → Option (List Int × Int)
 | 0, _, _, _, _, _ => none
 | k + 1, x11, x12, x36, x37, x38 => if x38 < x37 then (if 0 ≤ x38 then (if x38 < (x36.length : Int) then (if 0 ≤ (rd x36 x38) then (if (rd x36 x38) < (x11.length : Int) then (if x12.length + (rd_L4 x11 (rd x36 x38)).length < 17592186044416 then (impl_SwapBlocks.l0 k x11 (x12 ++ (rd_L4 x11 (rd x36 x38))) x36 x37 (wrap64 (x38 + 1))) else (none)) else (none)) else (none)) else (none)) else (none)) else (some (x12, 0))
end
def impl_SwapBlocks.f (k : Nat) (l0 : List (S93)) (l1 : List Int) (a2 : Int) (l3 : List Int) : Option (List Int × Int) := (impl_themeCode.f k l0 l1 a2).bind fun t334 => (if t334 = 0 then ((impl_blocksOf.f l1 a2).bind fun t335 => (if (l3.length : Int) = (t335.length : Int) then ((impl_orderOk_int64.f k t335 l3).bind fun t338 => (impl_SwapBlocks.j0 k l3 t335 (!t338))) else (impl_SwapBlocks.j0 k l3 t335 true))) else (some (([] : List Int), t334)))
theorem impl_SwapBlocks.mono_l : ∀ k, (∀ y0 y1 y2, LeO (impl_SwapBlocks.j0 k y0 y1 y2) (impl_SwapBlocks.j0 (k + 1) y0 y1 y2)) ∧ (∀ y0 y1 y2 y3 y4, LeO (impl_SwapBlocks.l0 k y0 y1 y2 y3 y4) (impl_SwapBlocks.l0 (k + 1) y0 y1 y2 y3 y4))
 | 0 => ⟨fun _ _ _ r h => by simp [impl_SwapBlocks.j0] at h, fun _ _ _ _ _ r h => by simp [impl_SwapBlocks.l0] at h⟩
 | k + 1 => by
  obtain ⟨ih0, ih1⟩ := impl_SwapBlocks.mono_l k
  refine ⟨?_, ?_⟩
  ·intro y0 y1 y2
   unfold impl_SwapBlocks.j0
   repeat' first
   | (with_reducible exact ih0 _ _ _)
   | (with_reducible exact ih1 _ _ _ _ _)
   | (with_reducible exact impl_orderOk_int64.mono _ _ _)
   | (with_reducible exact impl_themeCode.mono _ _ _ _)
   | (with_reducible exact LeO.refl _)
   | (with_reducible exact LeO.none _)
   | (with_reducible refine LeO.ite ?_ ?_)
   | (with_reducible refine LeO.bind ?_ (fun _ => ?_))
   | exact ih0 _ _ _
   | exact ih1 _ _ _ _ _
   | exact impl_orderOk_int64.mono _ _ _
   | exact impl_themeCode.mono _ _ _ _
   | exact LeO.none _
   | refine LeO.ite ?_ ?_
   | refine LeO.bind ?_ (fun _ => ?_)
  ·intro y0 y1 y2 y3 y4
   unfold impl_SwapBlocks.l0
   repeat' first
   | (with_reducible exact ih0 _ _ _)
   | (with_reducible exact ih1 _ _ _ _ _)
   | (with_reducible exact impl_orderOk_int64.mono _ _ _)
   | (with_reducible exact impl_themeCode.mono _ _ _ _)
   | (with_reducible exact LeO.refl _)
   | (with_reducible exact LeO.none _)
   | (with_reducible refine LeO.ite ?_ ?_)
   | (with_reducible refine LeO.bind ?_ (fun _ => ?_))
   | exact ih0 _ _ _
   | exact ih1 _ _ _ _ _
   | exact impl_orderOk_int64.mono _ _ _
   | exact impl_themeCode.mono _ _ _ _
   | exact LeO.none _
   | refine LeO.ite ?_ ?_
   | refine LeO.bind ?_ (fun _ => ?_)
theorem impl_SwapBlocks.mono : ∀ a0 a1 a2 a3 k, LeO (impl_SwapBlocks.f k a0 a1 a2 a3) (impl_SwapBlocks.f (k + 1) a0 a1 a2 a3) := by
 intro a0 a1 a2 a3 k;obtain ⟨ih0, ih1⟩ := impl_SwapBlocks.mono_l k;unfold impl_SwapBlocks.f
 repeat' first
   | (with_reducible exact ih0 _ _ _)
   | (with_reducible exact ih1 _ _ _ _ _)
   | (with_reducible exact impl_orderOk_int64.mono _ _ _)
   | (with_reducible exact impl_themeCode.mono _ _ _ _)
   | (with_reducible exact LeO.refl _)
   | (with_reducible exact LeO.none _)
   | (with_reducible refine LeO.ite ?_ ?_)
   | (with_reducible refine LeO.bind ?_ (fun _ => ?_))
   | exact ih0 _ _ _
   | exact ih1 _ _ _ _ _
   | exact impl_orderOk_int64.mono _ _ _
   | exact impl_themeCode.mono _ _ _ _
   | exact LeO.none _
   | refine LeO.ite ?_ ?_
   | refine LeO.bind ?_ (fun _ => ?_)
set_option maxHeartbeats 8000000 in
set_option maxRecDepth 100000 in
theorem impl_SwapBlocks.calls (k : Nat) (A0 : Option Addr) (c0 : Nat) (l0 : List (S93)) (A1 : Option Addr) (c1 : Nat) (l1 : List Int) (a2 : Int) (A3 : Option Addr) (c3 : Nat) (l3 : List Int) (r1 : List Int) (r2 : Int) (w : World) (hr0 : Kd.C k93 w A0 l0.length l0) (hc0 : l0.length ≤ c0) (hr1 : Kd.C (Kd.int .i64) w A1 l1.length l1) (hc1 : l1.length ≤ c1) (hr3 : Kd.C (Kd.int .i64) w A3 l3.length l3) (hc3 : l3.length ≤ c3) (h : impl_SwapBlocks.f k l0 l1 a2 l3 = some (r1, r2)) :
  Calls Try.prog 13 #[.slice A0 l0.length c0, .slice A1 l1.length c1, .int .i64 a2, .slice A3 l3.length c3] w fun e w' => ∃ v0_ : Value, e = .returned (.tuple #[v0_, .int .i64 r2]) ∧ Kd.R (Kd.int .i64) 2 w' w.heap.size (fun _ => True) v0_ r1 ∧ Below w.heap.size w w' := by
 have HR0 := Aside0.mk hr0;have HC0 := Aside0.mk hc0;clear hr0 hc0;have HR1 := Aside0.mk hr1;have HC1 := Aside0.mk hc1;clear hr1 hc1;have HR3 := Aside0.mk hr3;have HC3 := Aside0.mk hc3;clear hr3 hc3;have HB := Aside0.mk (Below.refl w.heap.size w);have H : ((impl_themeCode.f k l0 l1 a2).bind fun t334 => (if t334 = 0 then ((impl_blocksOf.f l1 a2).bind fun t335 => (if (l3.length : Int) = (t335.length : Int) then ((impl_orderOk_int64.f k t335 l3).bind fun t338 => (impl_SwapBlocks.j0 k l3 t335 (!t338))) else (impl_SwapBlocks.j0 k l3 t335 true))) else (some (([] : List Int), t334)))) = some (r1, r2) := h;clear h;replace H := Option.bind_eq_some_iff.mp H;obtain ⟨t334, A50, H⟩ := H;replace H : (if t334 = 0 then ((impl_blocksOf.f l1 a2).bind fun t335 => (if (l3.length : Int) = (t335.length : Int) then ((impl_orderOk_int64.f k t335 l3).bind fun t338 => (impl_SwapBlocks.j0 k l3 t335 (!t338))) else (impl_SwapBlocks.j0 k l3 t335 true))) else (some (([] : List Int), t334))) = some (r1, r2) := H;have A5 := Aside0.mk A50;clear A50;by_cases c6 : t334 = 0;rotate_left
 ·rw [if_neg c6] at H
  have c6b0 : (t334 == 0) = false := beq_eq_false_iff_ne.mpr c6;have c6b1 : (t334 != 0) = true := bne_iff_ne.mpr c6;simp only [Option.some.injEq, Prod.mk.injEq] at H;obtain ⟨rfl, rfl⟩ := H;go_enter Try.func13, Try.ntmps13;go_wp2_with (first | ((with_reducible refine gate_callee (f := 49) rfl ?_); refine goesL_ (some 18) rfl rfl Try.func49 (by kernel_rfl) rfl #[.slice A0 l0.length c0, .slice A1 l1.length c1, .int .i64 a2] rfl (by (try simp only [List.map_toArray, List.map]); try rfl) ?_; (with_reducible refine (impl_themeCode.calls k _ _ l0 _ _ l1 a2 t334 _ ?side1 ?side2 ?side3 ?side4 A5.out).mono ?_); (case side1 => exact HR0.out); (case side2 => exact HC0.out); (case side3 => exact HR1.out); (case side4 => exact HC1.out); rintro e w24 ⟨rfl, hb⟩; refine ⟨_, rfl, ?_⟩; have n0_ := Aside0.mk (below_step (by repeat (first | exact HB.out | apply below_alloc | apply pw_below_drewN | apply below_drew1)) hb); clear HB; have HB := n0_; clear n0_; (try clear hb); (try clear hb2); (try clear hk); (try clear hi)));go_ret2;exact ⟨_, by first | rfl | (simp [errW_none, errW_some] <;> rfl) | (simp [*, errW_none, errW_some] <;> rfl), by first | exact Kd.R_nil _ _ _ _ _ | exact Kd.N_nil _ _ _ _ _ | exact Kd.V_nil _ _ _ _ _ | exact Kd.Q_nil _ _ _ _ _ | exact Kd.S_nil _ _ _ _ _, by repeat (first | exact HB.out | apply below_alloc | apply pw_below_drewN | apply below_drew1)⟩
 rw [if_pos c6] at H;have c6b0 : (t334 == 0) = true := beq_iff_eq.mpr c6;have c6b1 : (t334 != 0) = false := bne_eq_false_iff_eq.mpr c6;clear c6;replace H := Option.bind_eq_some_iff.mp H;obtain ⟨t335, A70, H⟩ := H;replace H : (if (l3.length : Int) = (t335.length : Int) then ((impl_orderOk_int64.f k t335 l3).bind fun t338 => (impl_SwapBlocks.j0 k l3 t335 (!t338))) else (impl_SwapBlocks.j0 k l3 t335 true)) = some (r1, r2) := H;have A7 := Aside0.mk A70;clear A70;have HC8 := Aside0.mk H;clear H;go_enter Try.func13, Try.ntmps13
 go_upto_region 5 with (first | ((with_reducible refine gate_callee (f := 49) rfl ?_); refine goesL_ (some 18) rfl rfl Try.func49 (by kernel_rfl) rfl #[.slice A0 l0.length c0, .slice A1 l1.length c1, .int .i64 a2] rfl (by (try simp only [List.map_toArray, List.map]); try rfl) ?_; (with_reducible refine (impl_themeCode.calls k _ _ l0 _ _ l1 a2 t334 _ ?side1 ?side2 ?side3 ?side4 A5.out).mono ?_); (case side1 => exact HR0.out); (case side2 => exact HC0.out); (case side3 => exact HR1.out); (case side4 => exact HC1.out); rintro e w9 ⟨rfl, hb⟩; refine ⟨_, rfl, ?_⟩; have n0_ := Aside0.mk (below_step (by repeat (first | exact HB.out | apply below_alloc | apply pw_below_drewN | apply below_drew1)) hb); clear HB; have HB := n0_; clear n0_; (try clear hb); (try clear hb2); (try clear hk); (try clear hi)) | ((with_reducible refine gate_callee (f := 52) rfl ?_); refine goesL_ (some 24) rfl rfl Try.func52 (by kernel_rfl) rfl #[.slice A1 l1.length c1, .int .i64 a2] rfl (by (try simp only [List.map_toArray, List.map]); try rfl) ?_; (with_reducible refine (impl_blocksOf.calls _ _ l1 a2 t335 _ ?side1 ?side2 A7.out).mono ?_); (case side1 => exact (Kd.C_below HR1.out HB.out)); (case side2 => exact HC1.out); rintro e w10 ⟨v336, rfl, ho0, hb⟩; refine ⟨_, rfl, ?_⟩; have n0_ := Aside0.mk (Kd.S_lower ho0 (below_size (by repeat (first | exact HB.out | apply below_alloc | apply pw_below_drewN | apply below_drew1)))); have n1_ := Aside0.mk (below_step (by repeat (first | exact HB.out | apply below_alloc | apply pw_below_drewN | apply below_drew1)) hb); clear HB; have HO337 := n0_; have HB := n1_; clear n0_ n1_; (try clear hb); (try clear hb2); (try clear hk); (try clear hi); (try clear ho0)))
 (try simp only [Act.put, s0_, s1_, s2_]);go_cut [35] (fun v35 wc => ∃ (kq : Nat) (x35_7 : Bool), v35 = .bool x35_7 ∧ Aside0 (impl_SwapBlocks.j0 kq l3 t335 x35_7 = some (r1, r2)) ∧ Aside0 (kq ≤ k) ∧ Aside0 (Kd.S (Kd.slice 2 (Kd.int .i64)) 25 wc w.heap.size (fun _ => True) v336 t335) ∧ Aside0 (Below w.heap.size w wc))
 case first =>
  have H := HC8.out;clear HC8;by_cases c11 : (l3.length : Int) = (t335.length : Int);rotate_left
  ·rw [if_neg c11] at H
   have c11b0 : ((l3.length : Int) == (t335.length : Int)) = false := beq_eq_false_iff_ne.mpr c11;have c11b1 : ((l3.length : Int) != (t335.length : Int)) = true := bne_iff_ne.mpr c11
   have c11b2 : (l3.length == t335.length) = false := by first | simpa using c11 | (simp at c11 ⊢; omega)
   (first | rw [c11b0] | (simp only [i64_w, i32_w]; rw [c11b0]) | skip);have H' := Aside0.mk H;clear H;obtain ⟨Ao14, co14, eo14⟩ := Kd.S_slice HO337.out;subst eo14;go_wp2;go_meet
   case rel => exact ⟨_, (true), (by first | rfl | (simp; done) | (simp [*]; done)), H', ⟨by first | omega | exact Nat.le_refl _⟩, ⟨by exact HO337.out⟩, ⟨by repeat (first | exact HB.out | apply below_alloc | apply pw_below_drewN | apply below_drew1)⟩⟩
  rw [if_pos c11] at H;have c11b0 : ((l3.length : Int) == (t335.length : Int)) = true := beq_iff_eq.mpr c11;have c11b1 : ((l3.length : Int) != (t335.length : Int)) = false := bne_eq_false_iff_eq.mpr c11
  have c11b2 : (l3.length == t335.length) = true := by first | simpa using c11 | (simp at c11 ⊢; omega)
  clear c11;(first | rw [c11b0] | (simp only [i64_w, i32_w]; rw [c11b0]) | skip);replace H := Option.bind_eq_some_iff.mp H;obtain ⟨t338, A120, H⟩ := H;replace H : (impl_SwapBlocks.j0 k l3 t335 (!t338)) = some (r1, r2) := H;have A12 := Aside0.mk A120;clear A120;have H' := Aside0.mk H;clear H;obtain ⟨Ao13, co13, eo13⟩ := Kd.S_slice HO337.out;subst eo13;go_wp2_with (first | (go_at_call 59; (with_reducible refine (impl_orderOk_int64.calls k _ _ t335 _ _ l3 t338 _ ?side1 ?side2 ?side3 ?side4 A12.out).mono ?_); (case side1 => exact (Kd.S_reads' HO337.out).2.2); (case side2 => exact (Kd.S_reads' HO337.out).2.1); (case side3 => exact (Kd.C_below HR3.out HB.out)); (case side4 => exact HC3.out); rintro e w' ⟨rfl, ⟨nd, rfl⟩⟩));go_meet
  case rel => exact ⟨_, (!t338), (by first | rfl | (simp; done) | (simp [*]; done)), H', ⟨by first | omega | exact Nat.le_refl _⟩, ⟨by exact HO337.out⟩, ⟨by repeat (first | exact HB.out | apply below_alloc | apply pw_below_drewN | apply below_drew1)⟩⟩
 case rest =>
  clear HC8;(try clear c1);(try clear p2);(try clear c3);(try clear c4);(try clear c5);(try clear c6);(try clear c6b0);(try clear c6b1);(try clear c11);(try clear c11b0);(try clear c11b1);(try clear c11b2);(try clear c13);obtain ⟨kq, x35_7, rfl, HA, HJ7, HO_11, HB⟩ := hcut
  cases kq with
  | zero => exact absurd HA.out (by simp [impl_SwapBlocks.j0])
  | succ kj7 =>
   have H := HA.out;clear HA;simp only [impl_SwapBlocks.j0] at H;by_cases c15 : x35_7 = true;rotate_left
   ·replace c15 := Bool.eq_false_iff.mpr c15
    subst c15
    have H1 : (impl_SwapBlocks.l0 kj7 t335 ([] : List Int) l3 (l3.length : Int) 0) = some (r1, r2) := by rw [if_neg (show ¬ (false = true) by decide)] at H; exact H
    clear H;have H := H1;clear H1;have H' := Aside0.mk H;clear H;go_wp2;go_loopg [12, 38] kj7 (fun kq v12 v38 w' => ∃ (x12_2 : List Int) (x38_2 : Int), v38 = .int .i64 x38_2 ∧ Aside0 (impl_SwapBlocks.l0 kq t335 x12_2 l3 (l3.length : Int) x38_2 = some (r1, r2)) ∧ Aside0 (kq ≤ kj7) ∧ Aside0 (Kd.S (Kd.slice 2 (Kd.int .i64)) 25 w' w.heap.size (fun k_ => some k_ ≠ (v12 : Value).ownBlock) v336 t335) ∧ Aside0 (Kd.R (Kd.int .i64) 2 w' w.heap.size (fun _ => True) v12 x12_2) ∧ Aside0 (Below w.heap.size w w'))
    case atStart => exact ⟨(([] : List Int)), (0), (by first | rfl | (simp; done) | (simp [*]; done)), H', ⟨Nat.le_refl _⟩, ⟨by exact Kd.S_mono HO_11.out (fun _ hk => (by simp [Value.ownBlock]))⟩, ⟨by first | exact Kd.R_nil _ _ _ _ _ | exact Kd.N_nil _ _ _ _ _ | exact Kd.V_nil _ _ _ _ _ | exact Kd.Q_nil _ _ _ _ _ | exact Kd.S_nil _ _ _ _ _⟩, ⟨by repeat (first | exact HB.out | apply below_alloc | apply pw_below_drewN | apply below_drew1)⟩⟩
    case round =>
     clear H';(try clear c1);(try clear p2);(try clear c3);(try clear c4);(try clear c5);(try clear c6);(try clear c6b0);(try clear c6b1);(try clear c11);(try clear c11b0);(try clear c11b1);(try clear c11b2);(try clear c13);(try clear c15);(try clear p2);obtain ⟨x12_2, x38_2, rfl, HA, HK2, HO_11, HO_12, HB⟩ := hrel
     cases gk with
     | zero => exact absurd HA.out (by simp [impl_SwapBlocks.l0])
     | succ k2 =>
      have H := HA.out;clear HA;simp only [impl_SwapBlocks.l0] at H;by_cases c16 : x38_2 < (l3.length : Int);rotate_left
      ·rw [if_neg c16] at H
       have c16b0 : decide (x38_2 < (l3.length : Int)) = false := decide_eq_false c16;clear c16;simp only [Option.some.injEq, Prod.mk.injEq] at H;obtain ⟨rfl, rfl⟩ := H;go_wp2;go_ret2;exact ⟨_, by first | rfl | (simp [errW_none, errW_some] <;> rfl) | (simp [*, errW_none, errW_some] <;> rfl), by exact HO_12.out, by repeat (first | exact HB.out | apply below_alloc | apply pw_below_drewN | apply below_drew1)⟩
      rw [if_pos c16] at H;have c16b0 : decide (x38_2 < (l3.length : Int)) = true := decide_eq_true c16;clear c16;by_cases c17 : 0 ≤ x38_2;rotate_left
      ·rw [if_neg c17] at H
       exact absurd H (by simp)
      rw [if_pos c17] at H;have c17b0 : decide (0 ≤ x38_2) = true := decide_eq_true c17;clear c17;by_cases c18 : x38_2 < (l3.length : Int);rotate_left
      ·rw [if_neg c18] at H
       exact absurd H (by simp)
      rw [if_pos c18] at H;have c18b0 : decide (x38_2 < (l3.length : Int)) = true := decide_eq_true c18;clear c18;by_cases c19 : 0 ≤ (rd l3 x38_2);rotate_left
      ·rw [if_neg c19] at H
       exact absurd H (by simp)
      rw [if_pos c19] at H;have c19b0 : decide (0 ≤ (rd l3 x38_2)) = true := decide_eq_true c19;clear c19;by_cases c20 : (rd l3 x38_2) < (t335.length : Int);rotate_left
      ·rw [if_neg c20] at H
       exact absurd H (by simp)
      rw [if_pos c20] at H;have c20b0 : decide ((rd l3 x38_2) < (t335.length : Int)) = true := decide_eq_true c20;clear c20;by_cases c21 : x12_2.length + (rd_L4 t335 (rd l3 x38_2)).length < 17592186044416;rotate_left
      ·rw [if_neg c21] at H
       exact absurd H (by simp)
      rw [if_pos c21] at H;have LMc21 := Aside0.mk c21;clear c21;obtain ⟨y341, hy341⟩ : ∃ y_ : List Int, y_ = (x12_2 ++ (rd_L4 t335 (rd l3 x38_2))) := ⟨_, rfl⟩
      replace H : (impl_SwapBlocks.l0 k2 t335 y341 l3 (l3.length : Int) (wrap64 (x38_2 + 1))) = some (r1, r2) := by first | (rw [hy341]; with_reducible exact H) | (have H2_ := (Option.bind_some _ _).symm.trans H; rw [hy341]; with_reducible exact H2_) | (have H2_ := (Option.bind_some _ _).symm.trans H; with_reducible exact H2_) | with_reducible exact H | (rw [hy341]; exact H) | exact H
      have Ny341 := Aside0.mk hy341;clear hy341;have H' := Aside0.mk H;clear H;have p339 : 0 ≤ (x38_2 : Int) := of_decide_eq_true (by assumption);have q339 : x38_2 < (l3.length : Int) := of_decide_eq_true (by assumption);obtain ⟨ad339, e339, hx339_0⟩ := Kd.at_int HR3.out x38_2 p339 q339
      cases e339
      replace hx339_0 := (HB.out.cell (World.block_lt_of_cell? w _ hx339_0)).trans hx339_0;replace p339 := eq_true p339;replace q339 := eq_true q339;obtain ⟨Ao22, co22, eo22⟩ := Kd.S_slice HO_11.out;subst eo22;have p340 : 0 ≤ ((rd l3 x38_2) : Int) := of_decide_eq_true (by assumption);have q340 : (rd l3 x38_2) < (t335.length : Int) := of_decide_eq_true (by assumption);obtain ⟨ad340, A340_0, c340_0, e340, hx340_0, hl340_0, hi340_0⟩ := at_L4 (Kd.S_reads' HO_11.out).2.2 (rd l3 x38_2) p340 q340
      cases e340
      obtain ⟨ce340, hce340, hMe340, hcc340⟩ := Kd.S_get HO_11.out [] (rd l3 x38_2) p340 (by first | exact q340 | exact of_decide_eq_true (by assumption) | (have e_ := (Kd.S_reads' HO_11.out).1; omega));obtain ⟨ve340_0, rfl, ge340_0⟩ := hMe340;have hv340_0 := hcc340 0 _ rfl;rw [Nat.add_zero, show ((Kd.slice 2 (Kd.int .i64))).sz = 1 from rfl, Nat.mul_one] at hv340_0;replace hv340_0 := Option.some.inj (hv340_0.symm.trans hx340_0);rw [hv340_0] at ge340_0;have HL340_0 := Aside0.mk (show Kd.R (Kd.int .i64) 2 _ _ _ _ (rd_L4 t335 (rd l3 x38_2)) from ge340_0);clear hv340_0 ge340_0;clear hcc340 hce340;have HR340_0 := Aside0.mk hi340_0;have HC340_0 := Aside0.mk hl340_0;clear hi340_0 hl340_0;replace p340 := eq_true p340;replace q340 := eq_true q340;go_wp2_with (first | ((with_reducible refine gate_builtin (b := .append) (xs := #[.tmp 42, .tmp 46]) rfl ?_); at_builtin; refine Kd.R_append_rows (Kd.int .i64) (w0 := w) w.heap.size rfl (.tmp 42) (.tmp 46) 25 2 (.int .i64 0) 8 rfl Try.underlying25 info2 rfl (by decide) (by omega) u12 x12_2 (rd_L4 t335 (rd l3 x38_2)) _ _ _ (fun _ => True) (fun _ => False) rfl rfl ?aO ?aR (fun _ _ h => h) (fun _ h => h.elim) ?aF ?aB ?aS ?aL ?_; (case aR => repeat (first | exact (by repeat (first | (with_reducible exact HR340_0.out) | exact HR340_0.out)))); (case aB => exact (by repeat (first | exact HB.out | apply below_alloc | apply pw_below_drewN | apply below_drew1))); (case aF => exact (fun _ _ => trivial)); (case aO => exact (by exact HO_12.out)); (case aS => exact (below_size (by repeat (first | exact HB.out | apply below_alloc | apply pw_below_drewN | apply below_drew1)))); (case aL => have := LMc21.out; omega); intro v342 w23 ho hb hg hat; rw [← Ny341.out] at ho; have n0_ := Aside0.mk (Kd.S_after (ok := (fun _ => True)) (by exact Kd.S_mono HO_11.out (fun _ hk => ⟨trivial, hk⟩)) hg hat); have n1_ := Aside0.mk (Kd.R_after (ok := (fun k_ => some k_ ≠ (.slice (some ad340) t335.length co22 : Value).ownBlock)) (by exact Kd.R_mono HL340_0.out (fun _ hk => ⟨hk.2, hk.1⟩)) hg hat); have n2_ := Aside0.mk (hb); have n3_ := Aside0.mk (ho); clear HO_11; clear HL340_0; clear HB; clear HO_12; have HO_11 := n0_; have HL340_0 := n1_; have HB := n2_; have HO343 := n3_; clear n0_ n1_ n2_ n3_; clear ho hb hg hat))
      go_roundg k2
      case measure => have := HJ7.out; have := HK2.out; omega
      case rel => exact ⟨(y341), (wrap64 (x38_2 + 1)), (by first | rfl | (simp; done) | (simp [*]; done)), H', ⟨by have := HJ7.out; have := HK2.out; omega⟩, ⟨by exact Kd.S_mono HO_11.out (fun _ hk => hk.2)⟩, ⟨by exact HO343.out⟩, ⟨by repeat (first | exact HB.out | apply below_alloc | apply pw_below_drewN | apply below_drew1)⟩⟩
   subst c15
   have H1 : (some (([] : List Int), 7)) = some (r1, r2) := by rw [if_pos rfl] at H; exact H
   clear H;have H := H1;clear H1;simp only [Option.some.injEq, Prod.mk.injEq] at H;obtain ⟨rfl, rfl⟩ := H;go_wp2;go_ret2;exact ⟨_, by first | rfl | (simp [errW_none, errW_some] <;> rfl) | (simp [*, errW_none, errW_some] <;> rfl), by first | exact Kd.R_nil _ _ _ _ _ | exact Kd.N_nil _ _ _ _ _ | exact Kd.V_nil _ _ _ _ _ | exact Kd.Q_nil _ _ _ _ _ | exact Kd.S_nil _ _ _ _ _, by repeat (first | exact HB.out | apply below_alloc | apply pw_below_drewN | apply below_drew1)⟩

/-! ### spec_l00In: function 103 -/
def spec_l00In.f (a0 : Int) (a1 : Int) (a2 : Int) : Option (Bool) := if a0 ≥ a1 then (some (decide (a0 ≤ a2))) else (some false)
set_option maxHeartbeats 8000000 in
set_option maxRecDepth 100000 in
theorem spec_l00In.calls (a0 : Int) (a1 : Int) (a2 : Int) (r : Bool) (w : World) (h : spec_l00In.f a0 a1 a2 = some r) :
  Calls Try.prog 103 #[.int .i64 a0, .int .i64 a1, .int .i64 a2] w fun e w' => e = .returned (.bool r) ∧ Drawn0 w w' := by
 have H : (if a0 ≥ a1 then (some (decide (a0 ≤ a2))) else (some false)) = some r := h;clear h;by_cases c4 : a0 ≥ a1;rotate_left
 ·rw [if_neg c4] at H
  have c4b0 : decide (a1 ≤ a0) = false := decide_eq_false c4;clear c4;obtain rfl := Option.some.inj H;go_enter Try.func103, Try.ntmps103;go_wp2;go_ret;exact ⟨by first | rfl | (simp; done) | (simp [*]; done), by repeat (first | exact Drawn0.refl _ | apply Drawn0.step)⟩
 rw [if_pos c4] at H;have c4b0 : decide (a1 ≤ a0) = true := decide_eq_true c4;clear c4;obtain rfl := Option.some.inj H;go_enter Try.func103, Try.ntmps103;go_wp2;go_ret;exact ⟨by first | rfl | (simp; done) | (simp [*]; done), by repeat (first | exact Drawn0.refl _ | apply Drawn0.step)⟩

/-! ### spec_l01Small: function 122 -/
def spec_l01Small.f (a0 : Int) : Option (Bool) := if a0 ≥ 97 then (some (decide (a0 ≤ 122))) else (some false)
set_option maxHeartbeats 8000000 in
set_option maxRecDepth 100000 in
theorem spec_l01Small.calls (a0 : Int) (r : Bool) (w : World) (h : spec_l01Small.f a0 = some r) :
  Calls Try.prog 122 #[.int .u8 a0] w fun e w' => e = .returned (.bool r) ∧ Drawn0 w w' := by
 have H : (if a0 ≥ 97 then (some (decide (a0 ≤ 122))) else (some false)) = some r := h;clear h;by_cases c2 : a0 ≥ 97;rotate_left
 ·rw [if_neg c2] at H
  have c2b0 : decide (97 ≤ a0) = false := decide_eq_false c2;clear c2;obtain rfl := Option.some.inj H;go_enter Try.func122, Try.ntmps122;go_wp2;go_ret;exact ⟨by first | rfl | (simp; done) | (simp [*]; done), by repeat (first | exact Drawn0.refl _ | apply Drawn0.step)⟩
 rw [if_pos c2] at H;have c2b0 : decide (97 ≤ a0) = true := decide_eq_true c2;clear c2;obtain rfl := Option.some.inj H;go_enter Try.func122, Try.ntmps122;go_wp2;go_ret;exact ⟨by first | rfl | (simp; done) | (simp [*]; done), by repeat (first | exact Drawn0.refl _ | apply Drawn0.step)⟩

/-! ### spec_l01Digit: function 123 -/
def spec_l01Digit.f (a0 : Int) : Option (Bool) := if a0 ≥ 48 then (some (decide (a0 ≤ 57))) else (some false)
set_option maxHeartbeats 8000000 in
set_option maxRecDepth 100000 in
theorem spec_l01Digit.calls (a0 : Int) (r : Bool) (w : World) (h : spec_l01Digit.f a0 = some r) :
  Calls Try.prog 123 #[.int .u8 a0] w fun e w' => e = .returned (.bool r) ∧ Drawn0 w w' := by
 have H : (if a0 ≥ 48 then (some (decide (a0 ≤ 57))) else (some false)) = some r := h;clear h;by_cases c2 : a0 ≥ 48;rotate_left
 ·rw [if_neg c2] at H
  have c2b0 : decide (48 ≤ a0) = false := decide_eq_false c2;clear c2;obtain rfl := Option.some.inj H;go_enter Try.func123, Try.ntmps123;go_wp2;go_ret;exact ⟨by first | rfl | (simp; done) | (simp [*]; done), by repeat (first | exact Drawn0.refl _ | apply Drawn0.step)⟩
 rw [if_pos c2] at H;have c2b0 : decide (48 ≤ a0) = true := decide_eq_true c2;clear c2;obtain rfl := Option.some.inj H;go_enter Try.func123, Try.ntmps123;go_wp2;go_ret;exact ⟨by first | rfl | (simp; done) | (simp [*]; done), by repeat (first | exact Drawn0.refl _ | apply Drawn0.step)⟩

/-! ### spec_l01Name: function 107 -/
mutual
def spec_l01Name.j0 : Nat → ByteArray → Bool → Option (Bool)
 | 0, _, _ => none
 | k + 1, x0, x16 => if x16 = true then (some false) else (spec_l01Name.l0 k x0 0)
def spec_l01Name.l0 : Nat → ByteArray → Int → Option (Bool)
 | 0, _, _ => none
 | k + 1, x0, x3 => if x3 < (x0.size : Int) then (if 0 ≤ x3 then ((spec_l01Small.f (bt x0 x3)).bind fun t345 => (if t345 = true then (spec_l01Name.l0 k x0 (wrap64 (x3 + 1))) else ((spec_l01Digit.f (bt x0 x3)).bind fun t346 => (if t346 = true then (spec_l01Name.l0 k x0 (wrap64 (x3 + 1))) else (some false))))) else (none)) else (some true)
end
def spec_l01Name.f (k : Nat) (a0 : ByteArray) : Option (Bool) := if a0.toList = ([] : List UInt8) then (spec_l01Name.j0 k a0 true) else (if (a0.size : Int) > 10 then (spec_l01Name.j0 k a0 true) else (if 0 < (a0.size : Int) then ((spec_l01Small.f (bt a0 0)).bind fun t344 => (spec_l01Name.j0 k a0 (!t344))) else (none)))
theorem spec_l01Name.mono_l : ∀ k, (∀ y0 y1, LeO (spec_l01Name.j0 k y0 y1) (spec_l01Name.j0 (k + 1) y0 y1)) ∧ (∀ y0 y1, LeO (spec_l01Name.l0 k y0 y1) (spec_l01Name.l0 (k + 1) y0 y1))
 | 0 => ⟨fun _ _ r h => by simp [spec_l01Name.j0] at h, fun _ _ r h => by simp [spec_l01Name.l0] at h⟩
 | k + 1 => by
  obtain ⟨ih0, ih1⟩ := spec_l01Name.mono_l k
  refine ⟨?_, ?_⟩
  ·intro y0 y1
   unfold spec_l01Name.j0
   repeat' first
   | (with_reducible exact ih0 _ _)
   | (with_reducible exact ih1 _ _)
   | (with_reducible exact LeO.refl _)
   | (with_reducible exact LeO.none _)
   | (with_reducible refine LeO.ite ?_ ?_)
   | (with_reducible refine LeO.bind ?_ (fun _ => ?_))
   | exact ih0 _ _
   | exact ih1 _ _
   | exact LeO.none _
   | refine LeO.ite ?_ ?_
   | refine LeO.bind ?_ (fun _ => ?_)
  ·intro y0 y1
   unfold spec_l01Name.l0
   repeat' first
   | (with_reducible exact ih0 _ _)
   | (with_reducible exact ih1 _ _)
   | (with_reducible exact LeO.refl _)
   | (with_reducible exact LeO.none _)
   | (with_reducible refine LeO.ite ?_ ?_)
   | (with_reducible refine LeO.bind ?_ (fun _ => ?_))
   | exact ih0 _ _
   | exact ih1 _ _
   | exact LeO.none _
   | refine LeO.ite ?_ ?_
   | refine LeO.bind ?_ (fun _ => ?_)
theorem spec_l01Name.mono : ∀ a0 k, LeO (spec_l01Name.f k a0) (spec_l01Name.f (k + 1) a0) := by
 intro a0 k;obtain ⟨ih0, ih1⟩ := spec_l01Name.mono_l k;unfold spec_l01Name.f
 repeat' first
   | (with_reducible exact ih0 _ _)
   | (with_reducible exact ih1 _ _)
   | (with_reducible exact LeO.refl _)
   | (with_reducible exact LeO.none _)
   | (with_reducible refine LeO.ite ?_ ?_)
   | (with_reducible refine LeO.bind ?_ (fun _ => ?_))
   | exact ih0 _ _
   | exact ih1 _ _
   | exact LeO.none _
   | refine LeO.ite ?_ ?_
   | refine LeO.bind ?_ (fun _ => ?_)
set_option maxHeartbeats 8000000 in
set_option maxRecDepth 100000 in
theorem spec_l01Name.calls (k : Nat) (a0 : ByteArray) (r : Bool) (w : World) (h : spec_l01Name.f k a0 = some r) :
  Calls Try.prog 107 #[.string a0] w fun e w' => e = .returned (.bool r) ∧ Drawn0 w w' := by
 have H : (if a0.toList = ([] : List UInt8) then (spec_l01Name.j0 k a0 true) else (if (a0.size : Int) > 10 then (spec_l01Name.j0 k a0 true) else (if 0 < (a0.size : Int) then ((spec_l01Small.f (bt a0 0)).bind fun t344 => (spec_l01Name.j0 k a0 (!t344))) else (none)))) = some r := h;clear h;have HC2 := Aside0.mk H;clear H;go_enter Try.func107, Try.ntmps107
 go_upto_region 1 with (fail)
 go_cut [16] (fun v16 wc => ∃ (kq : Nat) (x16_1 : Bool), v16 = .bool x16_1 ∧ Aside0 (spec_l01Name.j0 kq a0 x16_1 = some r) ∧ Aside0 (kq ≤ k) ∧ Drawn0 w wc)
 case first =>
  have H := HC2.out;clear HC2;by_cases c3 : a0.toList = ([] : List UInt8);rotate_left
  ·rw [if_neg c3] at H
   have c3b0 : (a0.toList == ([] : List UInt8)) = false := beq_eq_false_iff_ne.mpr c3;have c3b1 : (a0.toList != ([] : List UInt8)) = true := bne_iff_ne.mpr c3;(first | rw [c3b0] | (simp only [i64_w, i32_w]; rw [c3b0]) | skip);by_cases c4 : (a0.size : Int) > 10;rotate_left
   ·rw [if_neg c4] at H
    have c4b0 : decide (10 < (a0.size : Int)) = false := decide_eq_false c4;have c4b1 : decide (10 < a0.size) = false := decide_eq_false (by omega);clear c4;by_cases c5 : 0 < (a0.size : Int);rotate_left
    ·rw [if_neg c5] at H
     exact absurd H (by simp)
    rw [if_pos c5] at H;have c5b0 : decide (0 < (a0.size : Int)) = true := decide_eq_true c5;have c5b1 : decide (0 < a0.size) = true := decide_eq_true (by omega);clear c5;replace H := Option.bind_eq_some_iff.mp H;obtain ⟨t344, A70, H⟩ := H;replace H : (spec_l01Name.j0 k a0 (!t344)) = some r := H;have A7 := Aside0.mk A70;clear A70;have H' := Aside0.mk H;clear H;have p6 : 0 ≤ (0 : Int) := (by omega);have q6 : 0 < a0.size := (by have : (0 : Int) < (a0.size : Int) := of_decide_eq_true (by assumption); omega);have hx6 : ∀ h : 0 < a0.size, ((a0[0]'h).toNat : Int) = bt a0 0 := bt_at a0 0;clear p6;have qi6 : (0 < (a0.size : Int)) = True := eq_true (of_decide_eq_true (by assumption));replace q6 := eq_true q6;go_wp2_with (first | (go_at_call 122; (with_reducible refine (spec_l01Small.calls (bt a0 0) t344 _ A7.out).mono ?_); rintro e w' ⟨rfl, ⟨nd, rfl⟩⟩));go_meet
    case rel => exact ⟨_, (!t344), (by first | rfl | (simp; done) | (simp [*]; done)), H', ⟨by first | omega | exact Nat.le_refl _⟩, by repeat (first | exact Drawn0.refl _ | apply Drawn0.step)⟩
   rw [if_pos c4] at H;have c4b0 : decide (10 < (a0.size : Int)) = true := decide_eq_true c4;have c4b1 : decide (10 < a0.size) = true := decide_eq_true (by omega);clear c4;have H' := Aside0.mk H;clear H;go_wp2;go_meet
   case rel => exact ⟨_, (true), (by first | rfl | (simp; done) | (simp [*]; done)), H', ⟨by first | omega | exact Nat.le_refl _⟩, by repeat (first | exact Drawn0.refl _ | apply Drawn0.step)⟩
  rw [if_pos c3] at H;have c3b0 : (a0.toList == ([] : List UInt8)) = true := beq_iff_eq.mpr c3;have c3b1 : (a0.toList != ([] : List UInt8)) = false := bne_eq_false_iff_eq.mpr c3;clear c3;(first | rw [c3b0] | (simp only [i64_w, i32_w]; rw [c3b0]) | skip);have H' := Aside0.mk H;clear H;go_wp2;go_meet
  case rel => exact ⟨_, (true), (by first | rfl | (simp; done) | (simp [*]; done)), H', ⟨by first | omega | exact Nat.le_refl _⟩, by repeat (first | exact Drawn0.refl _ | apply Drawn0.step)⟩
 case rest =>
  clear HC2;(try clear c1);(try clear p2);(try clear c3);(try clear c3b0);(try clear c3b1);(try clear c4);(try clear c4b0);(try clear c4b1);(try clear c5);(try clear c5b0);(try clear c5b1);(try clear p6);(try clear q6);(try clear hx6);(try clear qi6);(try clear p6);(try clear q6);obtain ⟨kq, x16_1, rfl, HA, HJ1, ⟨mc1, rfl⟩⟩ := hcut
  cases kq with
  | zero => exact absurd HA.out (by simp [spec_l01Name.j0])
  | succ kj1 =>
   have H := HA.out;clear HA;simp only [spec_l01Name.j0] at H;by_cases c8 : x16_1 = true;rotate_left
   ·replace c8 := Bool.eq_false_iff.mpr c8
    subst c8
    have H1 : (spec_l01Name.l0 kj1 a0 0) = some r := by rw [if_neg (show ¬ (false = true) by decide)] at H; exact H
    clear H;have H := H1;clear H1;have H' := Aside0.mk H;clear H;go_wp2;go_loopg [3] kj1 (fun kq v3 w' => ∃ (x3_2 : Int), v3 = .int .i64 x3_2 ∧ Aside0 (spec_l01Name.l0 kq a0 x3_2 = some r) ∧ Aside0 (kq ≤ kj1) ∧ Drawn0 w w')
    case atStart => exact ⟨(0), (by first | rfl | (simp; done) | (simp [*]; done)), H', ⟨Nat.le_refl _⟩, by repeat (first | exact Drawn0.refl _ | apply Drawn0.step)⟩
    case round =>
     clear H';(try clear c1);(try clear p2);(try clear c3);(try clear c3b0);(try clear c3b1);(try clear c4);(try clear c4b0);(try clear c4b1);(try clear c5);(try clear c5b0);(try clear c5b1);(try clear p6);(try clear q6);(try clear hx6);(try clear qi6);(try clear c8);(try clear p2);(try clear p6);(try clear q6);obtain ⟨x3_2, rfl, HA, HK2, ⟨m2, rfl⟩⟩ := hrel
     cases gk with
     | zero => exact absurd HA.out (by simp [spec_l01Name.l0])
     | succ k2 =>
      have H := HA.out;clear HA;simp only [spec_l01Name.l0] at H;by_cases c9 : x3_2 < (a0.size : Int);rotate_left
      ·rw [if_neg c9] at H
       have c9b0 : decide (x3_2 < (a0.size : Int)) = false := decide_eq_false c9;clear c9;obtain rfl := Option.some.inj H;go_wp2;go_ret;exact ⟨by first | rfl | (simp; done) | (simp [*]; done), by repeat (first | exact Drawn0.refl _ | apply Drawn0.step)⟩
      rw [if_pos c9] at H;have c9b0 : decide (x3_2 < (a0.size : Int)) = true := decide_eq_true c9;clear c9;by_cases c10 : 0 ≤ x3_2;rotate_left
      ·rw [if_neg c10] at H
       exact absurd H (by simp)
      rw [if_pos c10] at H;have c10b0 : decide (0 ≤ x3_2) = true := decide_eq_true c10;clear c10;replace H := Option.bind_eq_some_iff.mp H;obtain ⟨t345, A120, H⟩ := H;replace H : (if t345 = true then (spec_l01Name.l0 k2 a0 (wrap64 (x3_2 + 1))) else ((spec_l01Digit.f (bt a0 x3_2)).bind fun t346 => (if t346 = true then (spec_l01Name.l0 k2 a0 (wrap64 (x3_2 + 1))) else (some false)))) = some r := H;have A12 := Aside0.mk A120;clear A120;by_cases c13 : t345 = true;rotate_left
      ·replace c13 := Bool.eq_false_iff.mpr c13
       subst c13
       have H1 : ((spec_l01Digit.f (bt a0 x3_2)).bind fun t346 => (if t346 = true then (spec_l01Name.l0 k2 a0 (wrap64 (x3_2 + 1))) else (some false))) = some r := by rw [if_neg (show ¬ (false = true) by decide)] at H; exact H
       clear H;have H := H1;clear H1;replace H := Option.bind_eq_some_iff.mp H;obtain ⟨t346, A150, H⟩ := H;replace H : (if t346 = true then (spec_l01Name.l0 k2 a0 (wrap64 (x3_2 + 1))) else (some false)) = some r := H;have A15 := Aside0.mk A150;clear A150;by_cases c16 : t346 = true;rotate_left
       ·replace c16 := Bool.eq_false_iff.mpr c16
        subst c16
        have H1 : (some false) = some r := by rw [if_neg (show ¬ (false = true) by decide)] at H; exact H
        clear H;have H := H1;clear H1;obtain rfl := Option.some.inj H;have p11 : 0 ≤ (x3_2 : Int) := of_decide_eq_true (by assumption);have q11 : x3_2 < (a0.size : Int) := of_decide_eq_true (by assumption);have hx11 := bt_at a0 x3_2;replace p11 := eq_true p11;replace q11 := eq_true q11;go_wp2_with (first | ((with_reducible refine gate_callee (f := 122) rfl ?_); refine goesL_ (some 26) rfl rfl Try.func122 (by kernel_rfl) rfl #[.int .u8 (bt a0 x3_2)] rfl (by (try simp only [List.map_toArray, List.map]); try rfl) ?_; (with_reducible refine (spec_l01Small.calls (bt a0 x3_2) false _ A12.out).mono ?_); rintro e w' ⟨rfl, ⟨nd, rfl⟩⟩; refine ⟨_, rfl, ?_⟩; have p14 : 0 ≤ (x3_2 : Int) := of_decide_eq_true (by assumption); have q14 : x3_2 < (a0.size : Int) := of_decide_eq_true (by assumption); have hx14 := bt_at a0 x3_2; replace p14 := eq_true p14; replace q14 := eq_true q14) | (go_at_call 123; (with_reducible refine (spec_l01Digit.calls (bt a0 x3_2) false _ A15.out).mono ?_); rintro e w' ⟨rfl, ⟨nd, rfl⟩⟩));go_ret;exact ⟨by first | rfl | (simp; done) | (simp [*]; done), by repeat (first | exact Drawn0.refl _ | apply Drawn0.step)⟩
       subst c16
       have H1 : (spec_l01Name.l0 k2 a0 (wrap64 (x3_2 + 1))) = some r := by rw [if_pos rfl] at H; exact H
       clear H;have H := H1;clear H1;have H' := Aside0.mk H;clear H;have p11 : 0 ≤ (x3_2 : Int) := of_decide_eq_true (by assumption);have q11 : x3_2 < (a0.size : Int) := of_decide_eq_true (by assumption);have hx11 := bt_at a0 x3_2;replace p11 := eq_true p11;replace q11 := eq_true q11;go_wp2_with (first | ((with_reducible refine gate_callee (f := 122) rfl ?_); refine goesL_ (some 26) rfl rfl Try.func122 (by kernel_rfl) rfl #[.int .u8 (bt a0 x3_2)] rfl (by (try simp only [List.map_toArray, List.map]); try rfl) ?_; (with_reducible refine (spec_l01Small.calls (bt a0 x3_2) false _ A12.out).mono ?_); rintro e w' ⟨rfl, ⟨nd, rfl⟩⟩; refine ⟨_, rfl, ?_⟩; have p14 : 0 ≤ (x3_2 : Int) := of_decide_eq_true (by assumption); have q14 : x3_2 < (a0.size : Int) := of_decide_eq_true (by assumption); have hx14 := bt_at a0 x3_2; replace p14 := eq_true p14; replace q14 := eq_true q14) | (go_at_call 123; (with_reducible refine (spec_l01Digit.calls (bt a0 x3_2) true _ A15.out).mono ?_); rintro e w' ⟨rfl, ⟨nd, rfl⟩⟩));go_roundg k2
       case measure => have := HJ1.out; have := HK2.out; omega
       case rel => exact ⟨(wrap64 (x3_2 + 1)), (by first | rfl | (simp; done) | (simp [*]; done)), H', ⟨by have := HJ1.out; have := HK2.out; omega⟩, by repeat (first | exact Drawn0.refl _ | apply Drawn0.step)⟩
      subst c13
      have H1 : (spec_l01Name.l0 k2 a0 (wrap64 (x3_2 + 1))) = some r := by rw [if_pos rfl] at H; exact H
      clear H;have H := H1;clear H1;have H' := Aside0.mk H;clear H;have p11 : 0 ≤ (x3_2 : Int) := of_decide_eq_true (by assumption);have q11 : x3_2 < (a0.size : Int) := of_decide_eq_true (by assumption);have hx11 := bt_at a0 x3_2;replace p11 := eq_true p11;replace q11 := eq_true q11;go_wp2_with (first | ((with_reducible refine gate_callee (f := 122) rfl ?_); refine goesL_ (some 26) rfl rfl Try.func122 (by kernel_rfl) rfl #[.int .u8 (bt a0 x3_2)] rfl (by (try simp only [List.map_toArray, List.map]); try rfl) ?_; (with_reducible refine (spec_l01Small.calls (bt a0 x3_2) true _ A12.out).mono ?_); rintro e w' ⟨rfl, ⟨nd, rfl⟩⟩; refine ⟨_, rfl, ?_⟩));go_roundg k2
      case measure => have := HJ1.out; have := HK2.out; omega
      case rel => exact ⟨(wrap64 (x3_2 + 1)), (by first | rfl | (simp; done) | (simp [*]; done)), H', ⟨by have := HJ1.out; have := HK2.out; omega⟩, by repeat (first | exact Drawn0.refl _ | apply Drawn0.step)⟩
   subst c8
   have H1 : (some false) = some r := by rw [if_pos rfl] at H; exact H
   clear H;have H := H1;clear H1;obtain rfl := Option.some.inj H;go_wp2;go_ret;exact ⟨by first | rfl | (simp; done) | (simp [*]; done), by repeat (first | exact Drawn0.refl _ | apply Drawn0.step)⟩

end Go.Proofs.Ytagjleeckbnddaa.PFnThemes
