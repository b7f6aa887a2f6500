-- written by xprint.py, a program of this repo over the kit's print; not trusted: Lean checks it
import Derived.Test.YtoohfhgmflgmcaaPFnExactBestShiftx0
import Derived.Test.YtoohfhgmflgmcaaPFnExactBestShiftx4
namespace Go.Proofs.Ytoohfhgmflgmcaa.PFnExactBestShift
open Go.RowKit Go.Proofs.YtoohfhgmflgmcaaW.PrintWords Go.Proofs.YtoohfhgmflgmcaaW.PrintLast Go.Proofs.YtoohfhgmflgmcaaW.PrintMore
attribute [local go_sem] max2_int min2_int max_two min_two max_three min_three max_four min_four   -- for this text's walks alone
set_option linter.unusedVariables false
set_option linter.unusedSimpArgs false

/-! ### spec_l24Costs: function 34 -/
mutual
def spec_l24Costs.l0 : Nat → List Int → List Int → Int → List (List Int) → Int → Option ((List (List Int)))
  | 0, _, _, _, _, _ => none
  | k + 1, x0, x1, x2, x7, x8 => if x8 ≤ (x0.length : Int) then (if 0 ≤ (wrap64 ((x1.length : Int) + 1)) then (if (wrap64 ((x1.length : Int) + 1) : Int).toNat ≤ 35184372088832 then (if x7.length < 5864062014805 then (spec_l24Costs.l0 k x0 x1 x2 (x7 ++ [(List.replicate (wrap64 ((x1.length : Int) + 1) : Int).toNat 0)]) (wrap64 (x8 + 1))) else (none)) else (none)) else (none)) else (spec_l24Costs.l1 k x0 x1 x2 x7 (x0.length : Int))
def spec_l24Costs.l1 : Nat → List Int → List Int → Int → List (List Int) → Int → Option ((List (List Int)))
  | 0, _, _, _, _, _ => none
  | k + 1, x0, x1, x2, x7, x9 => if x9 ≥ 0 then (spec_l24Costs.l2 k x0 x1 x2 x7 x9 (x1.length : Int)) else (some x7)
def spec_l24Costs.l2 : Nat → List Int → List Int → Int → List (List Int) → Int → Int → Option ((List (List Int)))
  | 0, _, _, _, _, _, _ => none
  | k + 1, x0, x1, x2, x7, x9, x10 => if x10 ≥ 0 then (if x9 = (x0.length : Int) then (if 0 ≤ x9 then (if x9 < (x7.length : Int) then (if 0 ≤ x10 then (if x10 < ((rd_L1 x7 x9).length : Int) then (spec_l24Costs.l2 k x0 x1 x2 (x7.set (x9 : Int).toNat ((rd_L1 x7 x9).set (x10 : Int).toNat (wrap64 (x2 * (wrap64 ((x1.length : Int) - x10)))))) x9 (wrap64 (x10 - 1))) else (none)) else (none)) else (none)) else (none)) else (if 0 ≤ (wrap64 (x9 + 1)) then (if (wrap64 (x9 + 1)) < (x7.length : Int) then (if 0 ≤ x10 then (if x10 < ((rd_L1 x7 (wrap64 (x9 + 1))).length : Int) then (if x10 < (x1.length : Int) then (if 0 ≤ x9 then (if x9 < (x7.length : Int) then (if 0 ≤ (wrap64 (x10 + 1)) then (if (wrap64 (x10 + 1)) < ((rd_L1 x7 x9).length : Int) then ((spec_l00Min.f (wrap64 ((rd (rd_L1 x7 (wrap64 (x9 + 1))) x10) + x2)) (wrap64 ((rd (rd_L1 x7 x9) (wrap64 (x10 + 1))) + x2))).bind fun t141 => (if (wrap64 (x10 + 1)) < ((rd_L1 x7 (wrap64 (x9 + 1))).length : Int) then (if x9 < (x0.length : Int) then ((spec_l04Abs.f (wrap64 ((rd x0 x9) - (rd x1 x10)))).bind fun t146 => ((spec_l00Min.f t141 (wrap64 ((rd (rd_L1 x7 (wrap64 (x9 + 1))) (wrap64 (x10 + 1))) + t146))).bind fun t147 => (if x10 < ((rd_L1 x7 x9).length : Int) then (spec_l24Costs.l2 k x0 x1 x2 (x7.set (x9 : Int).toNat ((rd_L1 x7 x9).set (x10 : Int).toNat t147)) x9 (wrap64 (x10 - 1))) else (none)))) else (none)) else (none))) else (none)) else (none)) else (none)) else (none)) else (if 0 ≤ x9 then (if x9 < (x7.length : Int) then (if x10 < ((rd_L1 x7 x9).length : Int) then (spec_l24Costs.l2 k x0 x1 x2 (x7.set (x9 : Int).toNat ((rd_L1 x7 x9).set (x10 : Int).toNat (wrap64 ((rd (rd_L1 x7 (wrap64 (x9 + 1))) x10) + x2)))) x9 (wrap64 (x10 - 1))) else (none)) else (none)) else (none))) else (none)) else (none)) else (none)) else (none))) else (spec_l24Costs.l1 k x0 x1 x2 x7 (wrap64 (x9 - 1)))
end
def spec_l24Costs.f (k : Nat) (l0 : List Int) (l1 : List Int) (a2 : Int) : Option ((List (List Int))) := spec_l24Costs.l0 k l0 l1 a2 (([] : List (List Int))) 0
theorem spec_l24Costs.mono_l : ∀ k, (∀ y0 y1 y2 y3 y4, LeO (spec_l24Costs.l0 k y0 y1 y2 y3 y4) (spec_l24Costs.l0 (k + 1) y0 y1 y2 y3 y4)) ∧ (∀ y0 y1 y2 y3 y4, LeO (spec_l24Costs.l1 k y0 y1 y2 y3 y4) (spec_l24Costs.l1 (k + 1) y0 y1 y2 y3 y4)) ∧ (∀ y0 y1 y2 y3 y4 y5, LeO (spec_l24Costs.l2 k y0 y1 y2 y3 y4 y5) (spec_l24Costs.l2 (k + 1) y0 y1 y2 y3 y4 y5))
  | 0 => ⟨fun _ _ _ _ _ r h => by simp [spec_l24Costs.l0] at h, fun _ _ _ _ _ r h => by simp [spec_l24Costs.l1] at h, fun _ _ _ _ _ _ r h => by simp [spec_l24Costs.l2] at h⟩
  | k + 1 => by
    obtain ⟨ih0, ih1, ih2⟩ := spec_l24Costs.mono_l k
    refine ⟨?_, ?_, ?_⟩
    · intro y0 y1 y2 y3 y4
      unfold spec_l24Costs.l0
      repeat' first
      | (with_reducible exact ih0 _ _ _ _ _)
      | (with_reducible exact ih1 _ _ _ _ _)
      | (with_reducible exact ih2 _ _ _ _ _ _)
      | (with_reducible exact LeO.refl _)
      | (with_reducible exact LeO.none _)
      | (with_reducible refine LeO.ite ?_ ?_)
      | (with_reducible refine LeO.bind ?_ (fun _ => ?_))
      | exact ih0 _ _ _ _ _
      | exact ih1 _ _ _ _ _
      | exact ih2 _ _ _ _ _ _
      | exact LeO.none _
      | refine LeO.ite ?_ ?_
      | refine LeO.bind ?_ (fun _ => ?_)
    · intro y0 y1 y2 y3 y4
      unfold spec_l24Costs.l1
      repeat' first
      | (with_reducible exact ih0 _ _ _ _ _)
      | (with_reducible exact ih1 _ _ _ _ _)
      | (with_reducible exact ih2 _ _ _ _ _ _)
      | (with_reducible exact LeO.refl _)
      | (with_reducible exact LeO.none _)
      | (with_reducible refine LeO.ite ?_ ?_)
      | (with_reducible refine LeO.bind ?_ (fun _ => ?_))
      | exact ih0 _ _ _ _ _
      | exact ih1 _ _ _ _ _
      | exact ih2 _ _ _ _ _ _
      | exact LeO.none _
      | refine LeO.ite ?_ ?_
      | refine LeO.bind ?_ (fun _ => ?_)
    · intro y0 y1 y2 y3 y4 y5
      unfold spec_l24Costs.l2
      repeat' first
      | (with_reducible exact ih0 _ _ _ _ _)
      | (with_reducible exact ih1 _ _ _ _ _)
      | (with_reducible exact ih2 _ _ _ _ _ _)
      | (with_reducible exact LeO.refl _)
      | (with_reducible exact LeO.none _)
      | (with_reducible refine LeO.ite ?_ ?_)
      | (with_reducible refine LeO.bind ?_ (fun _ => ?_))
      | exact ih0 _ _ _ _ _
      | exact ih1 _ _ _ _ _
      | exact ih2 _ _ _ _ _ _
      | exact LeO.none _
      | refine LeO.ite ?_ ?_
      | refine LeO.bind ?_ (fun _ => ?_)
theorem spec_l24Costs.mono : ∀ a0 a1 a2 k, LeO (spec_l24Costs.f k a0 a1 a2) (spec_l24Costs.f (k + 1) a0 a1 a2) := by
  intro a0 a1 a2 k
  obtain ⟨ih0, ih1, ih2⟩ := spec_l24Costs.mono_l k
  unfold spec_l24Costs.f
  repeat' first
      | (with_reducible exact ih0 _ _ _ _ _)
      | (with_reducible exact ih1 _ _ _ _ _)
      | (with_reducible exact ih2 _ _ _ _ _ _)
      | (with_reducible exact LeO.refl _)
      | (with_reducible exact LeO.none _)
      | (with_reducible refine LeO.ite ?_ ?_)
      | (with_reducible refine LeO.bind ?_ (fun _ => ?_))
      | exact ih0 _ _ _ _ _
      | exact ih1 _ _ _ _ _
      | exact ih2 _ _ _ _ _ _
      | exact LeO.none _
      | refine LeO.ite ?_ ?_
      | refine LeO.bind ?_ (fun _ => ?_)
def spec_l24Costs.T17 : Bool × List (List Nat × List Nat) := (true, [([], []), ([], []), ([], []), ([2], [2]), ([1, 3], [1, 3]), ([4], [4]), ([], []), ([6], [6]), ([5, 7], [5, 7]), ([8], [8]), ([], []), ([], []), ([10, 11], [10, 11]), ([12], [12]), ([], []), ([], []), ([14, 15], [14, 15]), ([16], [16]), ([13, 17], [13, 17]), ([18], [18]), ([9, 19], [9, 19]), ([0, 20, 19], [0, 20]), ([21, 21, 0, 1, 2, 3, 4, 5, 6, 7, 8, 9, 10, 11, 12, 13, 14, 15, 16, 17, 18, 19, 20, 21], [0, 21])])
def spec_l24Costs.B17 : List Nat := [0, 0, 0, 4, 14, 30, 0, 64, 254, 510, 0, 0, 3072, 7168, 0, 0, 49152, 114688, 261120, 523264, 1048574, 2097151, 4194303]
theorem spec_l24Costs.tab17 : rtab .any (opsOf Try.f34 17) = spec_l24Costs.T17 := by kernel_rfl
theorem spec_l24Costs.bits17 : waitsOk spec_l24Costs.T17.2 spec_l24Costs.B17 = true := by kernel_rfl
set_option maxHeartbeats 8000000 in
set_option maxRecDepth 100000 in
theorem spec_l24Costs.calls (k : Nat) (A0 : Option Addr) (c0 : Nat) (l0 : List Int) (A1 : Option Addr) (c1 : Nat) (l1 : List Int) (a2 : Int) (r : List (List Int)) (w : World) (hr0 : Kd.C (Kd.int .i64) w A0 l0.length l0) (hc0 : l0.length ≤ c0) (hr1 : Kd.C (Kd.int .i64) w A1 l1.length l1) (hc1 : l1.length ≤ c1) (h : spec_l24Costs.f k l0 l1 a2 = some r) :
    Calls Try.prog 34 #[.slice A0 l0.length c0, .slice A1 l1.length c1, .int .i64 a2] w fun e w' => ∃ v0_ : Value, e = .returned (v0_) ∧ Kd.S (Kd.slice 2 (Kd.int .i64)) 24 w' w.heap.size (fun _ => True) v0_ r ∧ Below w.heap.size w w' := by
  have HR0 := Aside0.mk hr0
  have HC0 := Aside0.mk hc0
  clear hr0 hc0
  have HR1 := Aside0.mk hr1
  have HC1 := Aside0.mk hc1
  clear hr1 hc1
  have HB := Aside0.mk (Below.refl w.heap.size w)
  have H : (spec_l24Costs.l0 k l0 l1 a2 (([] : List (List Int))) 0) = some r := h
  clear h
  obtain ⟨y124, hy124⟩ : ∃ y_ : List (List Int), y_ = (([] : List (List Int))) := ⟨_, rfl⟩
  replace H : (spec_l24Costs.l0 k l0 l1 a2 y124 0) = some r := by first | (rw [hy124]; with_reducible exact H) | (have H2_ := (Option.bind_some _ _).symm.trans H; rw [hy124]; with_reducible exact H2_) | (have H2_ := (Option.bind_some _ _).symm.trans H; with_reducible exact H2_) | with_reducible exact H | (rw [hy124]; exact H) | exact H
  have Ny124 := Aside0.mk hy124
  clear hy124
  have H' := Aside0.mk H
  clear H
  go_enter Try.func34, Try.ntmps34
  go_wp2_with (first | ((with_reducible refine gate_dst (N := 12) rfl ?_); refine Kd.S_lit (Kd.slice 2 (Kd.int .i64)) _ 24 ?hg (N := 12) ?hd (xs := ([] : List (List Int))) (inner := []) (ok := fun _ => True) (okp := fun _ => True) ?hr ?hp (fun _ hk => hk) trivial (Below.refl _ _) (Nat.le_refl _) (by simp) ?_; (case hd => rfl); (case hg => rfl); (case hr => first | (go_simp; done) | (go_simp; rfl)); (case hp => exact (Reps.none _ _)); intro v125 w4 ho5 hb hg_ hnew_; clear hg_ hnew_; (first | rw [← Ny124.out] at ho5 | (simp only [Int.reduceToNat] at ho5; rw [← Ny124.out] at ho5)); have n0_ := Aside0.mk (Kd.S_lower ho5 (below_size (by repeat (first | (with_reducible first | exact HB.out | apply below_alloc | apply pw_below_drewN | apply below_drew1) | exact HB.out)))); have n1_ := Aside0.mk (below_step (by repeat (first | (with_reducible first | exact HB.out | apply below_alloc | apply pw_below_drewN | apply below_drew1) | exact HB.out)) hb); clear HB; have HO126 := n0_; have HB := n1_; clear n0_ n1_; clear hb ho5))
  go_loopg [7, 8] k (fun kq v7 v8 w' => ∃ (x7_1 : List (List Int)) (x8_1 : Int), v8 = .int .i64 x8_1 ∧ Aside0 (spec_l24Costs.l0 kq l0 l1 a2 x7_1 x8_1 = some r) ∧ Aside0 (kq ≤ k) ∧ Aside0 (Kd.S (Kd.slice 2 (Kd.int .i64)) 24 w' w.heap.size (fun _ => True) v7 x7_1) ∧ Aside0 (Below w.heap.size w w'))
  case atStart => exact ⟨(y124), (0), (by first | rfl | (simp; done) | (simp [*]; done)), H', ⟨Nat.le_refl _⟩, ⟨by (with_reducible repeat (first | apply Kd.S_alloc | apply Kd.S_drewN | apply Kd.S_drew)); exact HO126.out⟩, ⟨by repeat (first | (with_reducible first | exact HB.out | apply below_alloc | apply pw_below_drewN | apply below_drew1) | exact HB.out)⟩⟩
  case round =>
    clear H'
    try clear c1
    try clear p2
    try clear c3
    obtain ⟨x7_1, x8_1, rfl, HA, HK1, HO_7, HB⟩ := hrel
    cases gk with
    | zero => exact absurd HA.out (by simp [spec_l24Costs.l0])
    | succ k1 =>
      have H := HA.out
      clear HA
      simp only [spec_l24Costs.l0] at H
      by_cases c6 : x8_1 ≤ (l0.length : Int)
      · rw [if_pos c6] at H
        have c6b0 : decide (x8_1 ≤ (l0.length : Int)) = true := decide_eq_true c6
        clear c6
        obtain ⟨ji7, hji7⟩ : ∃ j_ : Int, (wrap64 ((l1.length : Int) + 1)) = j_ := ⟨_, rfl⟩
        replace H : (if 0 ≤ (ji7) then (if (ji7 : Int).toNat ≤ 35184372088832 then (if x7_1.length < 5864062014805 then (spec_l24Costs.l0 k1 l0 l1 a2 (x7_1 ++ [(List.replicate (ji7 : Int).toNat 0)]) (wrap64 (x8_1 + 1))) else (none)) else (none)) else (none)) = some r := by first | (rw [hji7] at H; exact H) | (simp only [hji7] at H ⊢; exact H)
        have hji7w : (IntKind.i64.wrap ((l1.length : Int) + 1)) = ji7 := (i64_w _).trans hji7
        by_cases c8 : 0 ≤ (ji7)
        · rw [if_pos c8] at H
          have c8b0 := eq_true c8
          have c8b1 : decide (0 ≤ (ji7)) = true := decide_eq_true c8
          clear c8
          by_cases c9 : (ji7 : Int).toNat ≤ 35184372088832
          · rw [if_pos c9] at H
            have c9b0 := eq_true c9
            have c9b1 : decide ((ji7 : Int).toNat ≤ 35184372088832) = true := decide_eq_true c9
            clear c9
            obtain ⟨y127, hy127⟩ : ∃ y_ : List Int, y_ = (List.replicate (ji7 : Int).toNat 0) := ⟨_, rfl⟩
            replace H : (if x7_1.length < 5864062014805 then (spec_l24Costs.l0 k1 l0 l1 a2 (x7_1 ++ [y127]) (wrap64 (x8_1 + 1))) else (none)) = some r := by first | (rw [hy127]; with_reducible exact H) | (have H2_ := (Option.bind_some _ _).symm.trans H; rw [hy127]; with_reducible exact H2_) | (have H2_ := (Option.bind_some _ _).symm.trans H; with_reducible exact H2_) | with_reducible exact H | (rw [hy127]; exact H) | exact H
            have Ny127 := Aside0.mk hy127
            clear hy127
            by_cases c10 : x7_1.length < 5864062014805
            · rw [if_pos c10] at H
              have LMc10 := Aside0.mk c10
              clear c10
              obtain ⟨y130, hy130⟩ : ∃ y_ : List (List Int), y_ = (x7_1 ++ [y127]) := ⟨_, rfl⟩
              replace H : (spec_l24Costs.l0 k1 l0 l1 a2 y130 (wrap64 (x8_1 + 1))) = some r := by first | (rw [hy130]; with_reducible exact H) | (have H2_ := (Option.bind_some _ _).symm.trans H; rw [hy130]; with_reducible exact H2_) | (have H2_ := (Option.bind_some _ _).symm.trans H; with_reducible exact H2_) | with_reducible exact H | (rw [hy130]; exact H) | exact H
              have Ny130 := Aside0.mk hy130
              clear hy130
              have H' := Aside0.mk H
              clear H
              go_wp2_with (first | ((with_reducible refine gate_dst (N := 23) rfl ?_); refine Kd.R_make (Kd.int .i64) _ 2 rfl (N := 23) rfl 24 _ _ rfl ji7 rfl rfl Try.underlying24 (.int .i64 0) 8 info2 rfl (by decide) (by omega) 0 (ok := fun _ => True) (okp := fun _ => True) rfl (fun _ hk => hk) trivial (of_decide_eq_true (by first | (with_reducible assumption) | assumption)) (Nat.le_trans (Nat.mul_le_mul_right _ (of_decide_eq_true (by first | (with_reducible assumption) | assumption) : ji7.toNat ≤ 35184372088832)) (by omega)) (Below.refl _ _) (Nat.le_refl _) ?_; intro v128 w11 ho12 hb hg_ hnew_; clear hg_ hnew_; (first | rw [← Ny127.out] at ho12 | (simp only [Int.reduceToNat] at ho12; rw [← Ny127.out] at ho12)); have n0_ := Aside0.mk (Kd.S_elder' (by (with_reducible repeat (first | apply Kd.S_alloc | apply Kd.S_drewN | apply Kd.S_drew)); exact HO_7.out) (Kd.R_base ho12) hb); have n1_ := Aside0.mk (Kd.R_lower ho12 (below_size (by repeat (first | (with_reducible first | exact HB.out | apply below_alloc | apply pw_below_drewN | apply below_drew1) | exact HB.out)))); have n2_ := Aside0.mk (below_step (by repeat (first | (with_reducible first | exact HB.out | apply below_alloc | apply pw_below_drewN | apply below_drew1) | exact HB.out)) hb); clear HO_7; clear HB; have HO_7 := n0_; have HO129 := n1_; have HB := n2_; clear n0_ n1_ n2_; clear hb ho12; obtain ⟨Ao14, co14, eo14⟩ := Kd.R_slice HO129.out; subst eo14) | ((with_reducible refine gate_builtin (b := .append) (xs := #[.tmp 19, .tmp 24]) rfl ?_); at_builtin; refine Kd.S_append (Kd.slice 2 (Kd.int .i64)) (w0 := w) w.heap.size rfl (.tmp 19) (.tmp 24) 60 24 (.slice none 0 0) 24 rfl Try.underlying60 info24 rfl (by decide) (by omega) u7 x7_1 y127 [.slice Ao14 y127.length co14] (fun _ => True) (fun k_ => some k_ = (.slice Ao14 y127.length co14 : Value).ownBlock) rfl rfl ?aP (fun k_ hk_ => ((Kd.R_mono (ok' := fun k_ => ((fun _ => True)) k_ ∧ some k_ ≠ (u7 : Value).ownBlock) (Kd.R_apart' (HO129.out) (Kd.S_typed HO_7.out) (by decide)) (fun k_ hk => ⟨trivial, hk.2⟩))).1 k_ hk_.symm) ?aF ?aO ?aB ?aS ?aL ?_; (case aP => exact Kd.M_row (Kd.R_mono (Kd.R_tight rfl (Kd.R_mono (ok' := fun k_ => ((fun _ => True)) k_ ∧ some k_ ≠ (u7 : Value).ownBlock) (Kd.R_apart' (HO129.out) (Kd.S_typed HO_7.out) (by decide)) (fun k_ hk => ⟨trivial, hk.2⟩))) (fun _ h_ => h_))); (case aB => exact (by repeat (first | (with_reducible first | exact HB.out | apply below_alloc | apply pw_below_drewN | apply below_drew1) | exact HB.out))); (case aF => exact (fun _ _ => trivial)); (case aO => exact (by (with_reducible repeat (first | apply Kd.S_alloc | apply Kd.S_drewN | apply Kd.S_drew)); exact Kd.S_mono HO_7.out (fun k_ hk => ⟨trivial, fun e_ => hk.2 e_⟩))); (case aS => exact (below_size (by repeat (first | (with_reducible first | exact HB.out | apply below_alloc | apply pw_below_drewN | apply below_drew1) | exact HB.out)))); (case aL => have := LMc10.out; omega); intro v131 w13 ho hb hg hat; rw [← Ny130.out] at ho; have n0_ := Aside0.mk (hb); have n1_ := Aside0.mk (ho); clear HB; clear HO_7; clear HO129; have HB := n0_; have HO132 := n1_; clear n0_ n1_; clear ho hb hg hat))
              go_roundg k1
              case measure => have := HK1.out; omega
              case rel => exact ⟨(y130), (wrap64 (x8_1 + 1)), (by first | rfl | (simp; done) | (simp [*]; done)), H', ⟨by have := HK1.out; omega⟩, ⟨by (with_reducible repeat (first | apply Kd.S_alloc | apply Kd.S_drewN | apply Kd.S_drew)); exact HO132.out⟩, ⟨by repeat (first | (with_reducible first | exact HB.out | apply below_alloc | apply pw_below_drewN | apply below_drew1) | exact HB.out)⟩⟩
            · rw [if_neg c10] at H
              exact absurd H (by simp)
          · rw [if_neg c9] at H
            exact absurd H (by simp)
        · rw [if_neg c8] at H
          exact absurd H (by simp)
      · rw [if_neg c6] at H
        have c6b0 : decide (x8_1 ≤ (l0.length : Int)) = false := decide_eq_false c6
        clear c6
        have H' := Aside0.mk H
        clear H
        go_wp2
        go_loopg [9] k1 (fun kq v9 w' => ∃ (x7_2 : List (List Int)) (x9_2 : Int), v9 = .int .i64 x9_2 ∧ Aside0 (spec_l24Costs.l1 kq l0 l1 a2 x7_2 x9_2 = some r) ∧ Aside0 (kq ≤ k1) ∧ Aside0 (Kd.S (Kd.slice 2 (Kd.int .i64)) 24 w' w.heap.size (fun _ => True) u7 x7_2) ∧ Aside0 (Below w.heap.size w w'))
        case atStart => exact ⟨(x7_1), ((l0.length : Int)), (by first | rfl | (simp; done) | (simp [*]; done)), H', ⟨Nat.le_refl _⟩, ⟨by (with_reducible repeat (first | apply Kd.S_alloc | apply Kd.S_drewN | apply Kd.S_drew)); exact HO_7.out⟩, ⟨by repeat (first | (with_reducible first | exact HB.out | apply below_alloc | apply pw_below_drewN | apply below_drew1) | exact HB.out)⟩⟩
        case round =>
          clear H'
          try clear c1
          try clear p2
          try clear c3
          try clear c6
          try clear c6b0
          try clear p6
          try clear c8
          try clear c8b0
          try clear c8b1
          try clear c9
          try clear c9b0
          try clear c9b1
          try clear c10
          try clear p2
          obtain ⟨x7_2, x9_2, rfl, HA, HK2, HO_7, HB⟩ := hrel
          cases gk with
          | zero => exact absurd HA.out (by simp [spec_l24Costs.l1])
          | succ k2 =>
            have H := HA.out
            clear HA
            simp only [spec_l24Costs.l1] at H
            by_cases c15 : x9_2 ≥ 0
            · rw [if_pos c15] at H
              have c15b0 : decide (0 ≤ x9_2) = true := decide_eq_true c15
              clear c15
              have H' := Aside0.mk H
              clear H
              go_wp2
              go_loopg [10] k2 (fun kq v10 w' => ∃ (x7_3 : List (List Int)) (x10_3 : Int), v10 = .int .i64 x10_3 ∧ Aside0 (spec_l24Costs.l2 kq l0 l1 a2 x7_3 x9_2 x10_3 = some r) ∧ Aside0 (kq ≤ k2) ∧ Aside0 (Kd.S (Kd.slice 2 (Kd.int .i64)) 24 w' w.heap.size (fun _ => True) u7 x7_3) ∧ Aside0 (Below w.heap.size w w'))
              case atStart => exact ⟨(x7_2), ((l1.length : Int)), (by first | rfl | (simp; done) | (simp [*]; done)), H', ⟨Nat.le_refl _⟩, ⟨by (with_reducible repeat (first | apply Kd.S_alloc | apply Kd.S_drewN | apply Kd.S_drew)); exact HO_7.out⟩, ⟨by repeat (first | (with_reducible first | exact HB.out | apply below_alloc | apply pw_below_drewN | apply below_drew1) | exact HB.out)⟩⟩
              case round =>
                clear H'
                try clear c1
                try clear p2
                try clear c3
                try clear c6
                try clear c6b0
                try clear p6
                try clear c8
                try clear c8b0
                try clear c8b1
                try clear c9
                try clear c9b0
                try clear c9b1
                try clear c10
                try clear c15
                try clear c15b0
                try clear p2
                try clear p6
                obtain ⟨x7_3, x10_3, rfl, HA, HK3, HO_7, HB⟩ := hrel
                cases gk with
                | zero => exact absurd HA.out (by simp [spec_l24Costs.l2])
                | succ k3 =>
                  have H := HA.out
                  clear HA
                  simp only [spec_l24Costs.l2] at H
                  by_cases c16 : x10_3 ≥ 0
                  · rw [if_pos c16] at H
                    have c16b0 : decide (0 ≤ x10_3) = true := decide_eq_true c16
                    clear c16
                    by_cases c17 : x9_2 = (l0.length : Int)
                    · rw [if_pos c17] at H
                      have c17b0 : (x9_2 == (l0.length : Int)) = true := beq_iff_eq.mpr c17
                      have c17b1 : (x9_2 != (l0.length : Int)) = false := bne_eq_false_iff_eq.mpr c17
                      clear c17
                      by_cases c18 : 0 ≤ x9_2
                      · rw [if_pos c18] at H
                        have c18b0 : decide (0 ≤ x9_2) = true := decide_eq_true c18
                        clear c18
                        by_cases c19 : x9_2 < (x7_3.length : Int)
                        · rw [if_pos c19] at H
                          have c19b0 : decide (x9_2 < (x7_3.length : Int)) = true := decide_eq_true c19
                          clear c19
                          by_cases c20 : 0 ≤ x10_3
                          · rw [if_pos c20] at H
                            have c20b0 : decide (0 ≤ x10_3) = true := decide_eq_true c20
                            clear c20
                            by_cases c21 : x10_3 < ((rd_L1 x7_3 x9_2).length : Int)
                            · rw [if_pos c21] at H
                              have c21b0 : decide (x10_3 < ((rd_L1 x7_3 x9_2).length : Int)) = true := decide_eq_true c21
                              clear c21
                              obtain ⟨y134, hy134⟩ : ∃ y_ : List Int, y_ = ((rd_L1 x7_3 x9_2).set (x10_3 : Int).toNat (wrap64 (a2 * (wrap64 ((l1.length : Int) - x10_3))))) := ⟨_, rfl⟩
                              replace H : (spec_l24Costs.l2 k3 l0 l1 a2 (x7_3.set (x9_2 : Int).toNat y134) x9_2 (wrap64 (x10_3 - 1))) = some r := by first | (rw [hy134]; with_reducible exact H) | (have H2_ := (Option.bind_some _ _).symm.trans H; rw [hy134]; with_reducible exact H2_) | (have H2_ := (Option.bind_some _ _).symm.trans H; with_reducible exact H2_) | with_reducible exact H | (rw [hy134]; exact H) | exact H
                              have Ny134 := Aside0.mk hy134
                              clear hy134
                              obtain ⟨y136, hy136⟩ : ∃ y_ : List (List Int), y_ = (x7_3.set (x9_2 : Int).toNat y134) := ⟨_, rfl⟩
                              replace H : (spec_l24Costs.l2 k3 l0 l1 a2 y136 x9_2 (wrap64 (x10_3 - 1))) = some r := by first | (rw [hy136]; with_reducible exact H) | (have H2_ := (Option.bind_some _ _).symm.trans H; rw [hy136]; with_reducible exact H2_) | (have H2_ := (Option.bind_some _ _).symm.trans H; with_reducible exact H2_) | with_reducible exact H | (rw [hy136]; exact H) | exact H
                              have Ny136 := Aside0.mk hy136
                              clear hy136
                              have H' := Aside0.mk H
                              clear H
                              obtain ⟨Ao23, co23, eo23⟩ := Kd.S_slice HO_7.out
                              subst eo23
                              have p133 : 0 ≤ (x9_2 : Int) := of_decide_eq_true (by first | (with_reducible assumption) | assumption)
                              have q133 : x9_2 < (x7_3.length : Int) := of_decide_eq_true (by first | (with_reducible assumption) | assumption)
                              obtain ⟨ad133, A133_0, c133_0, e133, hx133_0, hl133_0, hi133_0⟩ := at_L1 (Kd.S_reads' HO_7.out).2.2 x9_2 p133 q133
                              cases e133
                              obtain ⟨ce133, hce133, hMe133, hcc133⟩ := Kd.S_get HO_7.out [] x9_2 p133 (by first | exact q133 | exact of_decide_eq_true (by first | (with_reducible assumption) | assumption) | (have e_ := (Kd.S_reads' HO_7.out).1; omega))
                              obtain ⟨ve133_0, rfl, ge133_0⟩ := hMe133
                              have hv133_0 := hcc133 0 _ rfl
                              rw [Nat.add_zero, show ((Kd.slice 2 (Kd.int .i64))).sz = 1 from rfl, Nat.mul_one] at hv133_0
                              replace hv133_0 := Option.some.inj (hv133_0.symm.trans hx133_0)
                              rw [hv133_0] at ge133_0
                              have HL133_0 := Aside0.mk (show Kd.R (Kd.int .i64) 2 _ _ _ _ (rd_L1 x7_3 x9_2) from ge133_0)
                              clear hv133_0 ge133_0
                              have HX133_0 := Aside0.mk hx133_0
                              clear hcc133 hce133
                              have HR133_0 := Aside0.mk hi133_0
                              have HC133_0 := Aside0.mk hl133_0
                              clear hi133_0 hl133_0
                              replace p133 := eq_true p133
                              replace q133 := eq_true q133
                              have p22 : 0 ≤ (x10_3 : Int) := of_decide_eq_true (by first | (with_reducible assumption) | assumption)
                              have q22 : (x10_3 : Int) < (((rd_L1 x7_3 x9_2).length : Int) : Int) := of_decide_eq_true (by first | (with_reducible assumption) | assumption)
                              obtain ⟨go22, co22, eo22, gb22, gl22, cl22, HG22⟩ := Kd.R_form HL133_0.out (by omega)
                              (first | cases eo22 | (injection eo22 with ea_ en_ ec_; (first | subst ea_ | (injection ea_ with ea_; subst ea_)); subst ec_; clear en_))
                              have GB22 := Aside0.mk gb22
                              have GG22 := Aside0.mk HG22
                              clear gb22 gl22 HG22
                              obtain ⟨hx22_0, hf22_0⟩ := Kd.R_celln 0 HL133_0.out (x10_3 : Int) p22 q22
                              replace p22 := eq_true p22
                              replace q22 := eq_true q22
                              have hq24 : (x9_2 : Int) < (x7_3.length : Int) := (by have h_ : (x9_2 : Int) < ((x7_3.length : Int) : Int) := of_decide_eq_true (by first | (with_reducible assumption) | assumption); first | exact h_ | (have e_ := (Kd.S_reads' HO_7.out).1; omega) | simpa only [List.length_set, List.length_set] using h_)
                              obtain ⟨oki24, ce24, hcl24, hM24, hcc24, hok24, hbk24⟩ := Kd.S_borrow HO_7.out [] (x9_2 : Int) (of_decide_eq_true (by first | (with_reducible assumption) | assumption)) hq24
                              obtain ⟨ve24_0, rfl, ge24_0⟩ := hM24
                              have hv24 := hcc24 0 _ rfl
                              rw [Nat.add_zero, show ((Kd.slice 2 (Kd.int .i64))).sz = 1 from rfl, Nat.mul_one] at hv24
                              replace hv24 := Option.some.inj (hv24.symm.trans HX133_0.out)
                              subst hv24
                              clear hcc24 hcl24
                              replace ge24_0 := (show Kd.R (Kd.int .i64) 2 _ _ _ _ (rd_L1 x7_3 x9_2) from ge24_0)
                              have HP24 := Kd.R_putg ge24_0 (x10_3 : Int) (wrap64 (a2 * (wrap64 ((l1.length : Int) - x10_3))))
                              go_wp2_with (first | ((with_reducible refine gate_store (t := 2) (p := 53) rfl ?_); refine store_event (t := 2) (p := 53) (v := ?vo_w25) (w1 := (wr.setCell ⟨go22, (x10_3 : Int).toNat, none⟩ (.int .i64 (wrap64 (a2 * (wrap64 ((l1.length : Int) - x10_3))))))) ?hg ?ho ?hn ?hr ?_; (case ho => rfl); (case hg => rfl); (case hn => rfl); (case hr => first | (go_simp; done) | (go_simp; rfl)); intro w25 hw; have hg : wr.grownBy w25 (some go22) := (by rw [hw]; exact HP24.2); have hz_ : Kd.R (Kd.int .i64) 2 w25 w.heap.size oki24 (.slice (some ⟨go22, 0, none⟩) (rd_L1 x7_3 x9_2).length c133_0) y134 := (by rw [hw, Ny134.out]; exact HP24.1); have hp_ : Kd.S (Kd.slice 2 (Kd.int .i64)) 24 w25 w.heap.size (fun _ => True) (.slice (some ad133) x7_3.length co23) y136 := (by rw [Ny136.out]; exact hbk24 hg (fun k_ e_ => by injection e_ with e_; subst e_; exact ge24_0.1 _ rfl) (Kd.M_row hz_)); have hm_ := Kd.R_mono hz_ hok24; clear HP24 hbk24; have n0_ := Aside0.mk (hp_); have n1_ := Aside0.mk ((by rw [hw]; exact below_set (HB.out) GB22.out : Below w.heap.size w w25)); have n2_ := Aside0.mk (hm_); have n3_ := Aside0.mk ((Kd.R_reads' hm_).2.1); clear HO_7; clear HB; clear HL133_0; have HO_7 := n0_; have HB := n1_; have HL156 := n2_; have HC135 := n3_; clear n0_ n1_ n2_ n3_; clear hg hw hp_ hz_ hm_ hok24))
                              go_roundg k3
                              case measure => have := HK1.out; have := HK2.out; have := HK3.out; omega
                              case rel => exact ⟨(y136), (wrap64 (x10_3 - 1)), (by first | rfl | (simp; done) | (simp [*]; done)), H', ⟨by have := HK1.out; have := HK2.out; have := HK3.out; omega⟩, ⟨by (with_reducible repeat (first | apply Kd.S_alloc | apply Kd.S_drewN | apply Kd.S_drew)); exact HO_7.out⟩, ⟨by repeat (first | (with_reducible first | exact HB.out | apply below_alloc | apply pw_below_drewN | apply below_drew1) | exact HB.out)⟩⟩
                            · rw [if_neg c21] at H
                              exact absurd H (by simp)
                          · rw [if_neg c20] at H
                            exact absurd H (by simp)
                        · rw [if_neg c19] at H
                          exact absurd H (by simp)
                      · rw [if_neg c18] at H
                        exact absurd H (by simp)
                    · rw [if_neg c17] at H
                      have c17b0 : (x9_2 == (l0.length : Int)) = false := beq_eq_false_iff_ne.mpr c17
                      have c17b1 : (x9_2 != (l0.length : Int)) = true := bne_iff_ne.mpr c17
                      obtain ⟨ji26, hji26⟩ : ∃ j_ : Int, (wrap64 (x9_2 + 1)) = j_ := ⟨_, rfl⟩
                      replace H : (if 0 ≤ (ji26) then (if (ji26) < (x7_3.length : Int) then (if 0 ≤ x10_3 then (if x10_3 < ((rd_L1 x7_3 (ji26)).length : Int) then (if x10_3 < (l1.length : Int) then (if 0 ≤ x9_2 then (if x9_2 < (x7_3.length : Int) then (if 0 ≤ (wrap64 (x10_3 + 1)) then (if (wrap64 (x10_3 + 1)) < ((rd_L1 x7_3 x9_2).length : Int) then ((spec_l00Min.f (wrap64 ((rd (rd_L1 x7_3 (ji26)) x10_3) + a2)) (wrap64 ((rd (rd_L1 x7_3 x9_2) (wrap64 (x10_3 + 1))) + a2))).bind fun t141 => (if (wrap64 (x10_3 + 1)) < ((rd_L1 x7_3 (ji26)).length : Int) then (if x9_2 < (l0.length : Int) then ((spec_l04Abs.f (wrap64 ((rd l0 x9_2) - (rd l1 x10_3)))).bind fun t146 => ((spec_l00Min.f t141 (wrap64 ((rd (rd_L1 x7_3 (ji26)) (wrap64 (x10_3 + 1))) + t146))).bind fun t147 => (if x10_3 < ((rd_L1 x7_3 x9_2).length : Int) then (spec_l24Costs.l2 k3 l0 l1 a2 (x7_3.set (x9_2 : Int).toNat ((rd_L1 x7_3 x9_2).set (x10_3 : Int).toNat t147)) x9_2 (wrap64 (x10_3 - 1))) else (none)))) else (none)) else (none))) else (none)) else (none)) else (none)) else (none)) else (if 0 ≤ x9_2 then (if x9_2 < (x7_3.length : Int) then (if x10_3 < ((rd_L1 x7_3 x9_2).length : Int) then (spec_l24Costs.l2 k3 l0 l1 a2 (x7_3.set (x9_2 : Int).toNat ((rd_L1 x7_3 x9_2).set (x10_3 : Int).toNat (wrap64 ((rd (rd_L1 x7_3 (ji26)) x10_3) + a2)))) x9_2 (wrap64 (x10_3 - 1))) else (none)) else (none)) else (none))) else (none)) else (none)) else (none)) else (none)) = some r := by first | (rw [hji26] at H; exact H) | (simp only [hji26] at H ⊢; exact H)
                      have hji26w : (IntKind.i64.wrap (x9_2 + 1)) = ji26 := (i64_w _).trans hji26
                      by_cases c27 : 0 ≤ (ji26)
                      · rw [if_pos c27] at H
                        have c27b0 : decide (0 ≤ (ji26)) = true := decide_eq_true c27
                        clear c27
                        by_cases c28 : (ji26) < (x7_3.length : Int)
                        · rw [if_pos c28] at H
                          have c28b0 : decide ((ji26) < (x7_3.length : Int)) = true := decide_eq_true c28
                          clear c28
                          by_cases c29 : 0 ≤ x10_3
                          · rw [if_pos c29] at H
                            have c29b0 : decide (0 ≤ x10_3) = true := decide_eq_true c29
                            clear c29
                            by_cases c30 : x10_3 < ((rd_L1 x7_3 (ji26)).length : Int)
                            · rw [if_pos c30] at H
                              have c30b0 : decide (x10_3 < ((rd_L1 x7_3 (ji26)).length : Int)) = true := decide_eq_true c30
                              clear c30
                              by_cases c31 : x10_3 < (l1.length : Int)
                              · rw [if_pos c31] at H
                                have c31b0 : decide (x10_3 < (l1.length : Int)) = true := decide_eq_true c31
                                clear c31
                                by_cases c32 : 0 ≤ x9_2
                                · rw [if_pos c32] at H
                                  have c32b0 : decide (0 ≤ x9_2) = true := decide_eq_true c32
                                  clear c32
                                  by_cases c33 : x9_2 < (x7_3.length : Int)
                                  · rw [if_pos c33] at H
                                    have c33b0 : decide (x9_2 < (x7_3.length : Int)) = true := decide_eq_true c33
                                    clear c33
                                    obtain ⟨ji34, hji34⟩ : ∃ j_ : Int, (wrap64 (x10_3 + 1)) = j_ := ⟨_, rfl⟩
                                    replace H : (if 0 ≤ (ji34) then (if (ji34) < ((rd_L1 x7_3 x9_2).length : Int) then ((spec_l00Min.f (wrap64 ((rd (rd_L1 x7_3 (ji26)) x10_3) + a2)) (wrap64 ((rd (rd_L1 x7_3 x9_2) (ji34)) + a2))).bind fun t141 => (if (ji34) < ((rd_L1 x7_3 (ji26)).length : Int) then (if x9_2 < (l0.length : Int) then ((spec_l04Abs.f (wrap64 ((rd l0 x9_2) - (rd l1 x10_3)))).bind fun t146 => ((spec_l00Min.f t141 (wrap64 ((rd (rd_L1 x7_3 (ji26)) (ji34)) + t146))).bind fun t147 => (if x10_3 < ((rd_L1 x7_3 x9_2).length : Int) then (spec_l24Costs.l2 k3 l0 l1 a2 (x7_3.set (x9_2 : Int).toNat ((rd_L1 x7_3 x9_2).set (x10_3 : Int).toNat t147)) x9_2 (wrap64 (x10_3 - 1))) else (none)))) else (none)) else (none))) else (none)) else (none)) = some r := by first | (rw [hji34] at H; exact H) | (simp only [hji34] at H ⊢; exact H)
                                    have hji34w : (IntKind.i64.wrap (x10_3 + 1)) = ji34 := (i64_w _).trans hji34
                                    by_cases c35 : 0 ≤ (ji34)
                                    · rw [if_pos c35] at H
                                      have c35b0 : decide (0 ≤ (ji34)) = true := decide_eq_true c35
                                      clear c35
                                      by_cases c36 : (ji34) < ((rd_L1 x7_3 x9_2).length : Int)
                                      · rw [if_pos c36] at H
                                        have c36b0 : decide ((ji34) < ((rd_L1 x7_3 x9_2).length : Int)) = true := decide_eq_true c36
                                        clear c36
                                        replace H := Option.bind_eq_some_iff.mp H
                                        obtain ⟨t141, A370, H⟩ := H
                                        replace H : (if (ji34) < ((rd_L1 x7_3 (ji26)).length : Int) then (if x9_2 < (l0.length : Int) then ((spec_l04Abs.f (wrap64 ((rd l0 x9_2) - (rd l1 x10_3)))).bind fun t146 => ((spec_l00Min.f t141 (wrap64 ((rd (rd_L1 x7_3 (ji26)) (ji34)) + t146))).bind fun t147 => (if x10_3 < ((rd_L1 x7_3 x9_2).length : Int) then (spec_l24Costs.l2 k3 l0 l1 a2 (x7_3.set (x9_2 : Int).toNat ((rd_L1 x7_3 x9_2).set (x10_3 : Int).toNat t147)) x9_2 (wrap64 (x10_3 - 1))) else (none)))) else (none)) else (none)) = some r := H
                                        have A37 := Aside0.mk A370
                                        clear A370
                                        by_cases c38 : (ji34) < ((rd_L1 x7_3 (ji26)).length : Int)
                                        · rw [if_pos c38] at H
                                          have c38b0 : decide ((ji34) < ((rd_L1 x7_3 (ji26)).length : Int)) = true := decide_eq_true c38
                                          clear c38
                                          by_cases c39 : x9_2 < (l0.length : Int)
                                          · rw [if_pos c39] at H
                                            have c39b0 : decide (x9_2 < (l0.length : Int)) = true := decide_eq_true c39
                                            clear c39
                                            replace H := Option.bind_eq_some_iff.mp H
                                            obtain ⟨t146, A400, H⟩ := H
                                            replace H : ((spec_l00Min.f t141 (wrap64 ((rd (rd_L1 x7_3 (ji26)) (ji34)) + t146))).bind fun t147 => (if x10_3 < ((rd_L1 x7_3 x9_2).length : Int) then (spec_l24Costs.l2 k3 l0 l1 a2 (x7_3.set (x9_2 : Int).toNat ((rd_L1 x7_3 x9_2).set (x10_3 : Int).toNat t147)) x9_2 (wrap64 (x10_3 - 1))) else (none))) = some r := H
                                            have A40 := Aside0.mk A400
                                            clear A400
                                            replace H := Option.bind_eq_some_iff.mp H
                                            obtain ⟨t147, A410, H⟩ := H
                                            replace H : (if x10_3 < ((rd_L1 x7_3 x9_2).length : Int) then (spec_l24Costs.l2 k3 l0 l1 a2 (x7_3.set (x9_2 : Int).toNat ((rd_L1 x7_3 x9_2).set (x10_3 : Int).toNat t147)) x9_2 (wrap64 (x10_3 - 1))) else (none)) = some r := H
                                            have A41 := Aside0.mk A410
                                            clear A410
                                            by_cases c42 : x10_3 < ((rd_L1 x7_3 x9_2).length : Int)
                                            · rw [if_pos c42] at H
                                              have c42b0 : decide (x10_3 < ((rd_L1 x7_3 x9_2).length : Int)) = true := decide_eq_true c42
                                              clear c42
                                              obtain ⟨y149, hy149⟩ : ∃ y_ : List Int, y_ = ((rd_L1 x7_3 x9_2).set (x10_3 : Int).toNat t147) := ⟨_, rfl⟩
                                              replace H : (spec_l24Costs.l2 k3 l0 l1 a2 (x7_3.set (x9_2 : Int).toNat y149) x9_2 (wrap64 (x10_3 - 1))) = some r := by first | (rw [hy149]; with_reducible exact H) | (have H2_ := (Option.bind_some _ _).symm.trans H; rw [hy149]; with_reducible exact H2_) | (have H2_ := (Option.bind_some _ _).symm.trans H; with_reducible exact H2_) | with_reducible exact H | (rw [hy149]; exact H) | exact H
                                              have Ny149 := Aside0.mk hy149
                                              clear hy149
                                              obtain ⟨y151, hy151⟩ : ∃ y_ : List (List Int), y_ = (x7_3.set (x9_2 : Int).toNat y149) := ⟨_, rfl⟩
                                              replace H : (spec_l24Costs.l2 k3 l0 l1 a2 y151 x9_2 (wrap64 (x10_3 - 1))) = some r := by first | (rw [hy151]; with_reducible exact H) | (have H2_ := (Option.bind_some _ _).symm.trans H; rw [hy151]; with_reducible exact H2_) | (have H2_ := (Option.bind_some _ _).symm.trans H; with_reducible exact H2_) | with_reducible exact H | (rw [hy151]; exact H) | exact H
                                              have Ny151 := Aside0.mk hy151
                                              clear hy151
                                              have H' := Aside0.mk H
                                              clear H
                                              obtain ⟨Ao44, co44, eo44⟩ := Kd.S_slice HO_7.out
                                              subst eo44
                                              have p137 : 0 ≤ ((ji26) : Int) := of_decide_eq_true (by first | (with_reducible assumption) | assumption)
                                              have q137 : (ji26) < (x7_3.length : Int) := of_decide_eq_true (by first | (with_reducible assumption) | assumption)
                                              obtain ⟨ad137, A137_0, c137_0, e137, hx137_0, hl137_0, hi137_0⟩ := at_L1 (Kd.S_reads' HO_7.out).2.2 (ji26) p137 q137
                                              cases e137
                                              obtain ⟨ce137, hce137, hMe137, hcc137⟩ := Kd.S_get HO_7.out [] (ji26) p137 (by first | exact q137 | exact of_decide_eq_true (by first | (with_reducible assumption) | assumption) | (have e_ := (Kd.S_reads' HO_7.out).1; omega))
                                              obtain ⟨ve137_0, rfl, ge137_0⟩ := hMe137
                                              have hv137_0 := hcc137 0 _ rfl
                                              rw [Nat.add_zero, show ((Kd.slice 2 (Kd.int .i64))).sz = 1 from rfl, Nat.mul_one] at hv137_0
                                              replace hv137_0 := Option.some.inj (hv137_0.symm.trans hx137_0)
                                              rw [hv137_0] at ge137_0
                                              have HL137_0 := Aside0.mk (show Kd.R (Kd.int .i64) 2 _ _ _ _ (rd_L1 x7_3 (ji26)) from ge137_0)
                                              clear hv137_0 ge137_0
                                              have HX137_0 := Aside0.mk hx137_0
                                              clear hcc137 hce137
                                              have HR137_0 := Aside0.mk hi137_0
                                              have HC137_0 := Aside0.mk hl137_0
                                              clear hi137_0 hl137_0
                                              replace p137 := eq_true p137
                                              replace q137 := eq_true q137
                                              have p138 : 0 ≤ (x10_3 : Int) := of_decide_eq_true (by first | (with_reducible assumption) | assumption)
                                              have q138 : x10_3 < ((rd_L1 x7_3 (ji26)).length : Int) := of_decide_eq_true (by first | (with_reducible assumption) | assumption)
                                              obtain ⟨ad138, e138, hx138_0⟩ := Kd.at_int (by repeat (first | (with_reducible exact HR137_0.out) | (with_reducible refine Kd.C_alloc ?_ _) | (with_reducible refine Kd.C_drewN ?_ _) | (with_reducible refine Kd.C_drew ?_) | exact HR137_0.out)) x10_3 p138 q138
                                              cases e138
                                              replace p138 := eq_true p138
                                              replace q138 := eq_true q138
                                              have p139 : 0 ≤ (x9_2 : Int) := of_decide_eq_true (by first | (with_reducible assumption) | assumption)
                                              have q139 : x9_2 < (x7_3.length : Int) := of_decide_eq_true (by first | (with_reducible assumption) | assumption)
                                              obtain ⟨ad139, A139_0, c139_0, e139, hx139_0, hl139_0, hi139_0⟩ := at_L1 (Kd.S_reads' HO_7.out).2.2 x9_2 p139 q139
                                              obtain rfl : ad137 = ad139 := (by injection e139)
                                              obtain ⟨ce139, hce139, hMe139, hcc139⟩ := Kd.S_get HO_7.out [] x9_2 p139 (by first | exact q139 | exact of_decide_eq_true (by first | (with_reducible assumption) | assumption) | (have e_ := (Kd.S_reads' HO_7.out).1; omega))
                                              obtain ⟨ve139_0, rfl, ge139_0⟩ := hMe139
                                              have hv139_0 := hcc139 0 _ rfl
                                              rw [Nat.add_zero, show ((Kd.slice 2 (Kd.int .i64))).sz = 1 from rfl, Nat.mul_one] at hv139_0
                                              replace hv139_0 := Option.some.inj (hv139_0.symm.trans hx139_0)
                                              rw [hv139_0] at ge139_0
                                              have HL139_0 := Aside0.mk (show Kd.R (Kd.int .i64) 2 _ _ _ _ (rd_L1 x7_3 x9_2) from ge139_0)
                                              clear hv139_0 ge139_0
                                              have HX139_0 := Aside0.mk hx139_0
                                              clear hcc139 hce139
                                              have HR139_0 := Aside0.mk hi139_0
                                              have HC139_0 := Aside0.mk hl139_0
                                              clear hi139_0 hl139_0
                                              replace p139 := eq_true p139
                                              replace q139 := eq_true q139
                                              have p140 : 0 ≤ ((ji34) : Int) := of_decide_eq_true (by first | (with_reducible assumption) | assumption)
                                              have q140 : (ji34) < ((rd_L1 x7_3 x9_2).length : Int) := of_decide_eq_true (by first | (with_reducible assumption) | assumption)
                                              obtain ⟨ad140, e140, hx140_0⟩ := Kd.at_int (by repeat (first | (with_reducible exact HR139_0.out) | (with_reducible refine Kd.C_alloc ?_ _) | (with_reducible refine Kd.C_drewN ?_ _) | (with_reducible refine Kd.C_drew ?_) | exact HR139_0.out)) (ji34) p140 q140
                                              cases e140
                                              replace p140 := eq_true p140
                                              replace q140 := eq_true q140
                                              try go_wp2_with (first | ((with_reducible refine gate_callee (f := 49) rfl ?_); refine goesL_ (some 79) rfl rfl Try.func49 (by kernel_rfl) rfl #[.int .i64 (wrap64 ((rd (rd_L1 x7_3 (ji26)) x10_3) + a2)), .int .i64 (wrap64 ((rd (rd_L1 x7_3 x9_2) (ji34)) + a2))] rfl (by (try simp only [List.map_toArray, List.map_cons, List.map_nil]); first | done | (simp only [hji26, hji34]; rfl) | rfl | (simp only [List.length_drop, List.length_take]; rfl)) ?_; (with_reducible refine (spec_l00Min.calls (wrap64 ((rd (rd_L1 x7_3 (ji26)) x10_3) + a2)) (wrap64 ((rd (rd_L1 x7_3 x9_2) (ji34)) + a2)) t141 _ A37.out).mono ?_); rintro e w' ⟨rfl, ⟨nd, rfl⟩⟩; refine ⟨_, rfl, ?_⟩; (try (rw [drewN_self wr]; generalize hq_ : World.drewN wr _ = wr; have n0_ : Aside0 (Kd.R (Kd.int .i64) 2 wr w.heap.size (fun k_ => some k_ ≠ (.slice (some ad137) x7_3.length co44 : Value).ownBlock) (.slice (some ad138) (rd_L1 x7_3 (ji26)).length c137_0) (rd_L1 x7_3 (ji26))) := ⟨by rw [← hq_]; exact (by (with_reducible repeat (first | apply Kd.R_alloc | apply Kd.R_drewN | apply Kd.R_drew)); exact Kd.R_mono HL137_0.out (fun _ hk => hk.2))⟩; have n1_ : Aside0 (Kd.R (Kd.int .i64) 2 wr w.heap.size (fun k_ => some k_ ≠ (.slice (some ad137) x7_3.length co44 : Value).ownBlock) (.slice (some ad140) (rd_L1 x7_3 x9_2).length c139_0) (rd_L1 x7_3 x9_2)) := ⟨by rw [← hq_]; exact (by (with_reducible repeat (first | apply Kd.R_alloc | apply Kd.R_drewN | apply Kd.R_drew)); exact Kd.R_mono HL139_0.out (fun _ hk => hk.2))⟩; have n2_ : Aside0 (Kd.S (Kd.slice 2 (Kd.int .i64)) 24 wr w.heap.size (fun _ => True) (.slice (some ad137) x7_3.length co44) x7_3) := ⟨by rw [← hq_]; exact (by (with_reducible repeat (first | apply Kd.S_alloc | apply Kd.S_drewN | apply Kd.S_drew)); exact HO_7.out)⟩; have n3_ : Aside0 (Below w.heap.size w wr) := ⟨by rw [← hq_]; exact (by repeat (first | (with_reducible first | exact HB.out | apply below_alloc | apply pw_below_drewN | apply below_drew1) | exact HB.out))⟩; have n4_ : Aside0 (Kd.C (Kd.int .i64) wr (some ad138) (rd_L1 x7_3 (ji26)).length (rd_L1 x7_3 (ji26))) := ⟨by rw [← hq_]; exact (by repeat (first | (with_reducible exact HR137_0.out) | (with_reducible refine Kd.C_alloc ?_ _) | (with_reducible refine Kd.C_drewN ?_ _) | (with_reducible refine Kd.C_drew ?_) | exact HR137_0.out))⟩; have n5_ : Aside0 (Kd.C (Kd.int .i64) wr (some ad140) (rd_L1 x7_3 x9_2).length (rd_L1 x7_3 x9_2)) := ⟨by rw [← hq_]; exact (by repeat (first | (with_reducible exact HR139_0.out) | (with_reducible refine Kd.C_alloc ?_ _) | (with_reducible refine Kd.C_drewN ?_ _) | (with_reducible refine Kd.C_drew ?_) | exact HR139_0.out))⟩; clear HL137_0 HL139_0 HO_7 HB HR137_0 HR139_0 hq_; have HL137_0 := n0_; have HL139_0 := n1_; have HO_7 := n2_; have HB := n3_; have HR137_0 := n4_; have HR139_0 := n5_; clear n0_ n1_ n2_ n3_ n4_ n5_))))
                                              have n0_ := Aside0.mk (Kd.S_drew HO_7.out)
                                              have n1_ := Aside0.mk (Kd.R_drew HL137_0.out)
                                              have n2_ := Aside0.mk (Kd.R_drew HL139_0.out)
                                              have n3_ := Aside0.mk (Kd.C_drew HR137_0.out)
                                              have n4_ := Aside0.mk (Kd.C_drew HR139_0.out)
                                              have n5_ := Aside0.mk (below_drew1 HB.out)
                                              clear HO_7
                                              clear HL137_0
                                              clear HL139_0
                                              clear HR137_0
                                              clear HR139_0
                                              clear HB
                                              have HO_7 := n0_
                                              have HL137_0 := n1_
                                              have HL139_0 := n2_
                                              have HR137_0 := n3_
                                              have HR139_0 := n4_
                                              have HB := n5_
                                              clear n0_ n1_ n2_ n3_ n4_ n5_
                                              have p142 : 0 ≤ ((ji26) : Int) := of_decide_eq_true (by first | (with_reducible assumption) | assumption)
                                              have q142 : (ji26) < (x7_3.length : Int) := of_decide_eq_true (by first | (with_reducible assumption) | assumption)
                                              obtain ⟨ad142, A142_0, c142_0, e142, hx142_0, hl142_0, hi142_0⟩ := at_L1 (Kd.S_reads' HO_7.out).2.2 (ji26) p142 q142
                                              obtain rfl : ad137 = ad142 := (by injection e142)
                                              obtain ⟨ce142, hce142, hMe142, hcc142⟩ := Kd.S_get HO_7.out [] (ji26) p142 (by first | exact q142 | exact of_decide_eq_true (by first | (with_reducible assumption) | assumption) | (have e_ := (Kd.S_reads' HO_7.out).1; omega))
                                              obtain ⟨ve142_0, rfl, ge142_0⟩ := hMe142
                                              have hv142_0 := hcc142 0 _ rfl
                                              rw [Nat.add_zero, show ((Kd.slice 2 (Kd.int .i64))).sz = 1 from rfl, Nat.mul_one] at hv142_0
                                              replace hv142_0 := Option.some.inj (hv142_0.symm.trans hx142_0)
                                              rw [hv142_0] at ge142_0
                                              have HL142_0 := Aside0.mk (show Kd.R (Kd.int .i64) 2 _ _ _ _ (rd_L1 x7_3 (ji26)) from ge142_0)
                                              clear hv142_0 ge142_0
                                              have HX142_0 := Aside0.mk hx142_0
                                              clear hcc142 hce142
                                              have HR142_0 := Aside0.mk hi142_0
                                              have HC142_0 := Aside0.mk hl142_0
                                              clear hi142_0 hl142_0
                                              replace p142 := eq_true p142
                                              replace q142 := eq_true q142
                                              have p143 : 0 ≤ ((ji34) : Int) := of_decide_eq_true (by first | (with_reducible assumption) | assumption)
                                              have q143 : (ji34) < ((rd_L1 x7_3 (ji26)).length : Int) := of_decide_eq_true (by first | (with_reducible assumption) | assumption)
                                              obtain ⟨ad143, e143, hx143_0⟩ := Kd.at_int (by repeat (first | (with_reducible exact HR142_0.out) | (with_reducible refine Kd.C_alloc ?_ _) | (with_reducible refine Kd.C_drewN ?_ _) | (with_reducible refine Kd.C_drew ?_) | exact HR142_0.out)) (ji34) p143 q143
                                              cases e143
                                              replace p143 := eq_true p143
                                              replace q143 := eq_true q143
                                              have p144 : 0 ≤ (x9_2 : Int) := of_decide_eq_true (by first | (with_reducible assumption) | assumption)
                                              have q144 : x9_2 < (l0.length : Int) := of_decide_eq_true (by first | (with_reducible assumption) | assumption)
                                              obtain ⟨ad144, e144, hx144_0⟩ := Kd.at_int HR0.out x9_2 p144 q144
                                              have hw144_0 := hx144_0
                                              cases e144
                                              replace hx144_0 := (HB.out.cell (World.block_lt_of_cell? w _ hx144_0)).trans hx144_0
                                              replace p144 := eq_true p144
                                              replace q144 := eq_true q144
                                              have p145 : 0 ≤ (x10_3 : Int) := of_decide_eq_true (by first | (with_reducible assumption) | assumption)
                                              have q145 : x10_3 < (l1.length : Int) := of_decide_eq_true (by first | (with_reducible assumption) | assumption)
                                              obtain ⟨ad145, e145, hx145_0⟩ := Kd.at_int HR1.out x10_3 p145 q145
                                              have hw145_0 := hx145_0
                                              cases e145
                                              replace hx145_0 := (HB.out.cell (World.block_lt_of_cell? w _ hx145_0)).trans hx145_0
                                              replace p145 := eq_true p145
                                              replace q145 := eq_true q145
                                              refine start_ (n := 23) (S := fun w' => w'.cell? (ad137.add ((ji26)).toNat) = some (.slice (some ad143) (rd_L1 x7_3 (ji26)).length c142_0) ∧ w'.cell? (ad143.add ((ji34)).toNat) = some (.int .i64 (rd (rd_L1 x7_3 (ji26)) (ji34))) ∧ w'.cell? (ad144.add (x9_2).toNat) = some (.int .i64 (rd l0 x9_2)) ∧ w'.cell? (ad145.add (x10_3).toNat) = some (.int .i64 (rd l1 x10_3))) (ds := []) #[false, false, false, false, false, false, false, false, false, false, false, false, false, false, false, false, false, false, false, false, false, false, false] (by kernel_rfl) rfl rfl ⟨hx142_0, hx143_0, ((HB.out.cell (World.block_lt_of_cell? w _ hw144_0)).trans hw144_0), ((HB.out.cell (World.block_lt_of_cell? w _ hw145_0)).trans hw145_0)⟩ (fun hHeld => ?_); refine with_tabW spec_l24Costs.tab17 spec_l24Costs.bits17 (fun HT_ HW_ => ?_)
                                              generalize wr.drew = w45 at HO_7 HL137_0 HL139_0 HR137_0 HR139_0 HB HL142_0 HR142_0 HX142_0 hx142_0 hx143_0 hx144_0 hx145_0 hHeld ⊢
                                              refine pure_ (i := 0) (N := some 80) (v := ?_) (a' := ?_) #[true, false, false, false, false, false, false, false, false, false, false, false, false, false, false, false, false, false, false, false, false, false, false] rfl rfl (any_of HT_.out (by kernel_rfl)) (fun _ _ _ h => h) (Or.inl ⟨by rfl, ?_⟩) ?_ ?_
                                              rotate_left
                                              · intro w'
                                                go_simp
                                                with_reducible rfl
                                              rotate_left
                                              · simp only [Act.put, List.setIfInBounds_toArray, List.set_cons_zero, List.set_cons_succ, i64_w, i32_w]
                                                rfl
                                              refine pure_ (i := 1) (N := some 81) (v := ?_) (a' := ?_) #[true, true, false, false, false, false, false, false, false, false, false, false, false, false, false, false, false, false, false, false, false, false, false] rfl rfl (any_of HT_.out (by kernel_rfl)) (fun _ _ _ h => h) (Or.inl ⟨by rfl, ?_⟩) ?_ ?_
                                              rotate_left
                                              · intro w'
                                                go_simp
                                                with_reducible rfl
                                              rotate_left
                                              · simp only [Act.put, List.setIfInBounds_toArray, List.set_cons_zero, List.set_cons_succ, i64_w, i32_w]
                                                rfl
                                              refine pure_ (i := 2) (N := some 82) (v := ?_) (a' := ?_) #[true, true, true, false, false, false, false, false, false, false, false, false, false, false, false, false, false, false, false, false, false, false, false] rfl rfl (any_of HT_.out (by kernel_rfl)) (fun _ _ _ h => h) (Or.inl ⟨by rfl, ?_⟩) ?_ ?_
                                              rotate_left
                                              · intro w'
                                                go_simp
                                                with_reducible rfl
                                              rotate_left
                                              · simp only [Act.put, List.setIfInBounds_toArray, List.set_cons_zero, List.set_cons_succ, i64_w, i32_w]
                                                rfl
                                              refine pure_ (i := 3) (N := some 83) (v := ?_) (a' := ?_) #[true, true, true, true, false, false, false, false, false, false, false, false, false, false, false, false, false, false, false, false, false, false, false] rfl rfl (any_of HT_.out (by kernel_rfl)) (fun _ _ _ h => h) (Or.inl ⟨by rfl, ?_⟩) ?_ ?_
                                              rotate_left
                                              · intro w'
                                                go_simp
                                                with_reducible rfl
                                              rotate_left
                                              · simp only [Act.put, List.setIfInBounds_toArray, List.set_cons_zero, List.set_cons_succ, i64_w, i32_w]
                                                rfl
                                              refine pure_ (i := 4) (N := some 84) (v := ?_) (a' := ?_) #[true, true, true, true, true, false, false, false, false, false, false, false, false, false, false, false, false, false, false, false, false, false, false] rfl rfl (any_of HT_.out (by kernel_rfl)) (fun _ _ _ h => h) (Or.inl ⟨by rfl, ?_⟩) ?_ ?_
                                              rotate_left
                                              · intro w'
                                                go_simp
                                                with_reducible rfl
                                              rotate_left
                                              · simp only [Act.put, List.setIfInBounds_toArray, List.set_cons_zero, List.set_cons_succ, i64_w, i32_w]
                                                rfl
                                              refine pure_ (i := 6) (N := some 86) (v := ?_) (a' := ?_) #[true, true, true, true, true, false, true, false, false, false, false, false, false, false, false, false, false, false, false, false, false, false, false] rfl rfl (any_of HT_.out (by kernel_rfl)) (fun _ _ _ h => h) (Or.inl ⟨by rfl, ?_⟩) ?_ ?_
                                              rotate_left
                                              · intro w'
                                                go_simp
                                                with_reducible rfl
                                              rotate_left
                                              · simp only [Act.put, List.setIfInBounds_toArray, List.set_cons_zero, List.set_cons_succ, i64_w, i32_w]
                                                rfl
                                              refine pure_ (i := 7) (N := some 87) (v := ?_) (a' := ?_) #[true, true, true, true, true, false, true, true, false, false, false, false, false, false, false, false, false, false, false, false, false, false, false] rfl rfl (any_of HT_.out (by kernel_rfl)) (fun _ _ _ h => h) (Or.inl ⟨by rfl, ?_⟩) ?_ ?_
                                              rotate_left
                                              · intro w'
                                                go_simp
                                                with_reducible rfl
                                              rotate_left
                                              · simp only [Act.put, List.setIfInBounds_toArray, List.set_cons_zero, List.set_cons_succ, i64_w, i32_w]
                                                rfl
                                              refine pure_ (i := 10) (N := some 90) (v := ?_) (a' := ?_) #[true, true, true, true, true, false, true, true, false, false, true, false, false, false, false, false, false, false, false, false, false, false, false] rfl rfl (any_of HT_.out (by kernel_rfl)) (fun _ _ _ h => h) (Or.inl ⟨by rfl, ?_⟩) ?_ ?_
                                              rotate_left
                                              · intro w'
                                                go_simp
                                                with_reducible rfl
                                              rotate_left
                                              · simp only [Act.put, List.setIfInBounds_toArray, List.set_cons_zero, List.set_cons_succ, i64_w, i32_w]
                                                rfl
                                              refine pure_ (i := 11) (N := some 91) (v := ?_) (a' := ?_) #[true, true, true, true, true, false, true, true, false, false, true, true, false, false, false, false, false, false, false, false, false, false, false] rfl rfl (any_of HT_.out (by kernel_rfl)) (fun _ _ _ h => h) (Or.inl ⟨by rfl, ?_⟩) ?_ ?_
                                              rotate_left
                                              · intro w'
                                                go_simp
                                                with_reducible rfl
                                              rotate_left
                                              · simp only [Act.put, List.setIfInBounds_toArray, List.set_cons_zero, List.set_cons_succ, i64_w, i32_w]
                                                rfl
                                              refine pure_ (i := 12) (N := some 92) (v := ?_) (a' := ?_) #[true, true, true, true, true, false, true, true, false, false, true, true, true, false, false, false, false, false, false, false, false, false, false] rfl rfl (any_of HT_.out (by kernel_rfl)) (fun _ _ _ h => h) (Or.inl ⟨by rfl, ?_⟩) ?_ ?_
                                              rotate_left
                                              · intro w'
                                                go_simp
                                                with_reducible rfl
                                              rotate_left
                                              · simp only [Act.put, List.setIfInBounds_toArray, List.set_cons_zero, List.set_cons_succ, i64_w, i32_w]
                                                rfl
                                              refine pure_ (i := 14) (N := some 94) (v := ?_) (a' := ?_) #[true, true, true, true, true, false, true, true, false, false, true, true, true, false, true, false, false, false, false, false, false, false, false] rfl rfl (any_of HT_.out (by kernel_rfl)) (fun _ _ _ h => h) (Or.inl ⟨by rfl, ?_⟩) ?_ ?_
                                              rotate_left
                                              · intro w'
                                                go_simp
                                                with_reducible rfl
                                              rotate_left
                                              · simp only [Act.put, List.setIfInBounds_toArray, List.set_cons_zero, List.set_cons_succ, i64_w, i32_w]
                                                rfl
                                              refine pure_ (i := 15) (N := some 95) (v := ?_) (a' := ?_) #[true, true, true, true, true, false, true, true, false, false, true, true, true, false, true, true, false, false, false, false, false, false, false] rfl rfl (any_of HT_.out (by kernel_rfl)) (fun _ _ _ h => h) (Or.inl ⟨by rfl, ?_⟩) ?_ ?_
                                              rotate_left
                                              · intro w'
                                                go_simp
                                                with_reducible rfl
                                              rotate_left
                                              · simp only [Act.put, List.setIfInBounds_toArray, List.set_cons_zero, List.set_cons_succ, i64_w, i32_w]
                                                rfl
                                              refine pure_ (i := 16) (N := some 96) (v := ?_) (a' := ?_) #[true, true, true, true, true, false, true, true, false, false, true, true, true, false, true, true, true, false, false, false, false, false, false] rfl rfl (any_of HT_.out (by kernel_rfl)) (fun _ _ _ h => h) (Or.inl ⟨by rfl, ?_⟩) ?_ ?_
                                              rotate_left
                                              · intro w'
                                                go_simp
                                                with_reducible rfl
                                              rotate_left
                                              · simp only [Act.put, List.setIfInBounds_toArray, List.set_cons_zero, List.set_cons_succ, i64_w, i32_w]
                                                rfl
                                              refine take_ (i := 5) (N := some 85) (v := ?_) (a' := ?_) #[true, true, true, true, true, true, true, true, false, false, true, true, true, false, true, true, true, false, false, false, false, false, false] rfl rfl (take_ofW HT_.out HW_.out (by kernel_rfl)) (fun _ _ _ h => h) (Or.inl ⟨by rfl, ?_⟩) hHeld ?_ ?_
                                              rotate_left
                                              · rintro w' ⟨s0, s1, s2, s3⟩
                                                go_simp
                                                with_reducible rfl
                                              rotate_left
                                              · simp only [Act.put, List.setIfInBounds_toArray, List.set_cons_zero, List.set_cons_succ, i64_w, i32_w]
                                                rfl
                                              refine pure_ (i := 8) (N := some 88) (v := ?_) (a' := ?_) #[true, true, true, true, true, true, true, true, true, false, true, true, true, false, true, true, true, false, false, false, false, false, false] rfl rfl (any_of HT_.out (by kernel_rfl)) (fun _ _ _ h => h) (Or.inl ⟨by rfl, ?_⟩) ?_ ?_
                                              rotate_left
                                              · intro w'
                                                go_simp
                                                with_reducible rfl
                                              rotate_left
                                              · simp only [Act.put, List.setIfInBounds_toArray, List.set_cons_zero, List.set_cons_succ, i64_w, i32_w]
                                                rfl
                                              refine take_ (i := 9) (N := some 89) (v := ?_) (a' := ?_) #[true, true, true, true, true, true, true, true, true, true, true, true, true, false, true, true, true, false, false, false, false, false, false] rfl rfl (take_ofW HT_.out HW_.out (by kernel_rfl)) (fun _ _ _ h => h) (Or.inl ⟨by rfl, ?_⟩) hHeld ?_ ?_
                                              rotate_left
                                              · rintro w' ⟨s0, s1, s2, s3⟩
                                                go_simp
                                                with_reducible rfl
                                              rotate_left
                                              · simp only [Act.put, List.setIfInBounds_toArray, List.set_cons_zero, List.set_cons_succ, i64_w, i32_w]
                                                rfl
                                              refine take_ (i := 13) (N := some 93) (v := ?_) (a' := ?_) #[true, true, true, true, true, true, true, true, true, true, true, true, true, true, true, true, true, false, false, false, false, false, false] rfl rfl (take_ofW HT_.out HW_.out (by kernel_rfl)) (fun _ _ _ h => h) (Or.inl ⟨by rfl, ?_⟩) hHeld ?_ ?_
                                              rotate_left
                                              · rintro w' ⟨s0, s1, s2, s3⟩
                                                go_simp
                                                with_reducible rfl
                                              rotate_left
                                              · simp only [Act.put, List.setIfInBounds_toArray, List.set_cons_zero, List.set_cons_succ, i64_w, i32_w]
                                                rfl
                                              refine take_ (i := 17) (N := some 97) (v := ?_) (a' := ?_) #[true, true, true, true, true, true, true, true, true, true, true, true, true, true, true, true, true, true, false, false, false, false, false] rfl rfl (take_ofW HT_.out HW_.out (by kernel_rfl)) (fun _ _ _ h => h) (Or.inl ⟨by rfl, ?_⟩) hHeld ?_ ?_
                                              rotate_left
                                              · rintro w' ⟨s0, s1, s2, s3⟩
                                                go_simp
                                                with_reducible rfl
                                              rotate_left
                                              · simp only [Act.put, List.setIfInBounds_toArray, List.set_cons_zero, List.set_cons_succ, i64_w, i32_w]
                                                rfl
                                              refine pure_ (i := 18) (N := some 98) (v := ?_) (a' := ?_) #[true, true, true, true, true, true, true, true, true, true, true, true, true, true, true, true, true, true, true, false, false, false, false] rfl rfl (any_of HT_.out (by kernel_rfl)) (fun _ _ _ h => h) (Or.inl ⟨by rfl, ?_⟩) ?_ ?_
                                              rotate_left
                                              · intro w'
                                                go_simp
                                                with_reducible rfl
                                              rotate_left
                                              · simp only [Act.put, List.setIfInBounds_toArray, List.set_cons_zero, List.set_cons_succ, i64_w, i32_w]
                                                rfl
                                              refine one_ (i := 19) (N := some 99) #[true, true, true, true, true, true, true, true, true, true, true, true, true, true, true, true, true, true, true, true, false, false, false] rfl rfl (one_of HT_.out (by kernel_rfl)) (by decide) (fun K hK => ?_)
                                              refine goes_ Try.func35 (by kernel_rfl) rfl #[.int .i64 (wrap64 ((rd l0 x9_2) - (rd l1 x10_3)))] (by rfl) rfl rfl (by (try simp only [List.map_toArray, List.map_cons, List.map_nil]); first | done | rfl | (simp only [List.length_drop, List.length_take]; rfl)) ?_
                                              with_reducible refine (spec_l04Abs.calls (wrap64 ((rd l0 x9_2) - (rd l1 x10_3))) t146 _ A40.out).mono ?_
                                              rintro e w' ⟨rfl, ⟨nd, rfl⟩⟩
                                              refine ⟨_, rfl, ?_⟩
                                              refine hK.out _ _ ⟨hHeld.1, hHeld.2.1, ((HB.out.cell (World.block_lt_of_cell? w _ hw144_0)).trans hw144_0), ((HB.out.cell (World.block_lt_of_cell? w _ hw145_0)).trans hw145_0)⟩ (fun hHeld => ?_)
                                              clear hK K
                                              refine norm_ (a' := ?_) ?_ ?_
                                              rotate_left
                                              · show Act.put _ (some 99) _ = _
                                                simp only [Act.put, List.setIfInBounds_toArray, List.set_cons_zero, List.set_cons_succ, i64_w, i32_w]
                                                rfl
                                              refine pure_ (i := 20) (N := some 100) (v := ?_) (a' := ?_) #[true, true, true, true, true, true, true, true, true, true, true, true, true, true, true, true, true, true, true, true, true, false, false] rfl rfl (any_of HT_.out (by kernel_rfl)) (fun _ _ _ h => h) (Or.inl ⟨by rfl, ?_⟩) ?_ ?_
                                              rotate_left
                                              · intro w'
                                                go_simp
                                                with_reducible rfl
                                              rotate_left
                                              · simp only [Act.put, List.setIfInBounds_toArray, List.set_cons_zero, List.set_cons_succ, i64_w, i32_w]
                                                rfl
                                              refine one_ (i := 21) (N := some 101) #[true, true, true, true, true, true, true, true, true, true, true, true, true, true, true, true, true, true, true, true, true, true, false] rfl rfl (one_of HT_.out (by kernel_rfl)) (by decide) (fun K hK => ?_)
                                              refine goes_ Try.func49 (by kernel_rfl) rfl #[.int .i64 t141, .int .i64 (wrap64 ((rd (rd_L1 x7_3 (ji26)) (ji34)) + t146))] (by rfl) rfl rfl (by (try simp only [List.map_toArray, List.map_cons, List.map_nil]); first | done | (simp only [hji26, hji34]; rfl) | rfl | (simp only [List.length_drop, List.length_take]; rfl)) ?_
                                              with_reducible refine (spec_l00Min.calls t141 (wrap64 ((rd (rd_L1 x7_3 (ji26)) (ji34)) + t146)) t147 _ A41.out).mono ?_
                                              rintro e w' ⟨rfl, ⟨nd, rfl⟩⟩
                                              refine ⟨_, rfl, ?_⟩
                                              refine hK.out _ _ ⟨hHeld.1, hHeld.2.1, ((HB.out.cell (World.block_lt_of_cell? w _ hw144_0)).trans hw144_0), ((HB.out.cell (World.block_lt_of_cell? w _ hw145_0)).trans hw145_0)⟩ (fun hHeld => ?_)
                                              clear hK K
                                              refine norm_ (a' := ?_) ?_ ?_
                                              rotate_left
                                              · show Act.put _ (some 101) _ = _
                                                simp only [Act.put, List.setIfInBounds_toArray, List.set_cons_zero, List.set_cons_succ, i64_w, i32_w]
                                                rfl
                                              refine pure_ (i := 22) (N := some 11) (v := ?_) (a' := ?_) #[true, true, true, true, true, true, true, true, true, true, true, true, true, true, true, true, true, true, true, true, true, true, true] rfl rfl (any_of HT_.out (by kernel_rfl)) (fun _ _ _ h => h) (Or.inl ⟨by rfl, ?_⟩) ?_ ?_
                                              rotate_left
                                              · intro w'
                                                go_simp
                                                with_reducible rfl
                                              rotate_left
                                              · simp only [Act.put, List.setIfInBounds_toArray, List.set_cons_zero, List.set_cons_succ, i64_w, i32_w]
                                                rfl
                                              refine done_ (done_of HT_.out (by kernel_rfl)) ?_
                                              (try rw [World.drewN_drewN])
                                              generalize hq_ : World.drewN w45 _ = w45
                                              (try (have n_ := Aside0.mk (by first | exact Kd.S_at hq_ HO_7.out | exact Kd.R_at hq_ HO_7.out | exact below_at hq_ HO_7.out | exact Kd.C_at hq_ HO_7.out); clear HO_7; have HO_7 := n_; clear n_))
                                              (try (have n_ := Aside0.mk (by first | exact Kd.S_at hq_ HL137_0.out | exact Kd.R_at hq_ HL137_0.out | exact below_at hq_ HL137_0.out | exact Kd.C_at hq_ HL137_0.out); clear HL137_0; have HL137_0 := n_; clear n_))
                                              (try (have n_ := Aside0.mk (by first | exact Kd.S_at hq_ HL139_0.out | exact Kd.R_at hq_ HL139_0.out | exact below_at hq_ HL139_0.out | exact Kd.C_at hq_ HL139_0.out); clear HL139_0; have HL139_0 := n_; clear n_))
                                              (try (have n_ := Aside0.mk (by first | exact Kd.S_at hq_ HR137_0.out | exact Kd.R_at hq_ HR137_0.out | exact below_at hq_ HR137_0.out | exact Kd.C_at hq_ HR137_0.out); clear HR137_0; have HR137_0 := n_; clear n_))
                                              (try (have n_ := Aside0.mk (by first | exact Kd.S_at hq_ HR139_0.out | exact Kd.R_at hq_ HR139_0.out | exact below_at hq_ HR139_0.out | exact Kd.C_at hq_ HR139_0.out); clear HR139_0; have HR139_0 := n_; clear n_))
                                              (try (have n_ := Aside0.mk (by first | exact Kd.S_at hq_ HB.out | exact Kd.R_at hq_ HB.out | exact below_at hq_ HB.out | exact Kd.C_at hq_ HB.out); clear HB; have HB := n_; clear n_))
                                              (try (have n_ := Aside0.mk (by first | exact Kd.S_at hq_ HL142_0.out | exact Kd.R_at hq_ HL142_0.out | exact below_at hq_ HL142_0.out | exact Kd.C_at hq_ HL142_0.out); clear HL142_0; have HL142_0 := n_; clear n_))
                                              (try (have n_ := Aside0.mk (by first | exact Kd.S_at hq_ HR142_0.out | exact Kd.R_at hq_ HR142_0.out | exact below_at hq_ HR142_0.out | exact Kd.C_at hq_ HR142_0.out); clear HR142_0; have HR142_0 := n_; clear n_))
                                              clear hq_
                                              have p148 : 0 ≤ (x9_2 : Int) := of_decide_eq_true (by first | (with_reducible assumption) | assumption)
                                              have q148 : x9_2 < (x7_3.length : Int) := of_decide_eq_true (by first | (with_reducible assumption) | assumption)
                                              obtain ⟨ad148, A148_0, c148_0, e148, hx148_0, hl148_0, hi148_0⟩ := at_L1 (Kd.S_reads' HO_7.out).2.2 x9_2 p148 q148
                                              obtain rfl : ad137 = ad148 := (by injection e148)
                                              obtain ⟨ce148, hce148, hMe148, hcc148⟩ := Kd.S_get HO_7.out [] x9_2 p148 (by first | exact q148 | exact of_decide_eq_true (by first | (with_reducible assumption) | assumption) | (have e_ := (Kd.S_reads' HO_7.out).1; omega))
                                              obtain ⟨ve148_0, rfl, ge148_0⟩ := hMe148
                                              have hv148_0 := hcc148 0 _ rfl
                                              rw [Nat.add_zero, show ((Kd.slice 2 (Kd.int .i64))).sz = 1 from rfl, Nat.mul_one] at hv148_0
                                              replace hv148_0 := Option.some.inj (hv148_0.symm.trans hx148_0)
                                              rw [hv148_0] at ge148_0
                                              have HL148_0 := Aside0.mk (show Kd.R (Kd.int .i64) 2 _ _ _ _ (rd_L1 x7_3 x9_2) from ge148_0)
                                              clear hv148_0 ge148_0
                                              have HX148_0 := Aside0.mk hx148_0
                                              clear hcc148 hce148
                                              have HR148_0 := Aside0.mk hi148_0
                                              have HC148_0 := Aside0.mk hl148_0
                                              clear hi148_0 hl148_0
                                              replace p148 := eq_true p148
                                              replace q148 := eq_true q148
                                              have p43 : 0 ≤ (x10_3 : Int) := of_decide_eq_true (by first | (with_reducible assumption) | assumption)
                                              have q43 : (x10_3 : Int) < (((rd_L1 x7_3 x9_2).length : Int) : Int) := of_decide_eq_true (by first | (with_reducible assumption) | assumption)
                                              obtain ⟨go43, co43, eo43, gb43, gl43, cl43, HG43⟩ := Kd.R_form HL148_0.out (by omega)
                                              (first | cases eo43 | (injection eo43 with ea_ en_ ec_; (first | subst ea_ | (injection ea_ with ea_; subst ea_)); subst ec_; clear en_))
                                              have GB43 := Aside0.mk gb43
                                              have GG43 := Aside0.mk HG43
                                              clear gb43 gl43 HG43
                                              obtain ⟨hx43_0, hf43_0⟩ := Kd.R_celln 0 HL148_0.out (x10_3 : Int) p43 q43
                                              replace p43 := eq_true p43
                                              replace q43 := eq_true q43
                                              have hq46 : (x9_2 : Int) < (x7_3.length : Int) := (by have h_ : (x9_2 : Int) < ((x7_3.length : Int) : Int) := of_decide_eq_true (by first | (with_reducible assumption) | assumption); first | exact h_ | (have e_ := (Kd.S_reads' HO_7.out).1; omega) | simpa only [List.length_set, List.length_set] using h_)
                                              obtain ⟨oki46, ce46, hcl46, hM46, hcc46, hok46, hbk46⟩ := Kd.S_borrow HO_7.out [] (x9_2 : Int) (of_decide_eq_true (by first | (with_reducible assumption) | assumption)) hq46
                                              obtain ⟨ve46_0, rfl, ge46_0⟩ := hM46
                                              have hv46 := hcc46 0 _ rfl
                                              rw [Nat.add_zero, show ((Kd.slice 2 (Kd.int .i64))).sz = 1 from rfl, Nat.mul_one] at hv46
                                              replace hv46 := Option.some.inj (hv46.symm.trans HX148_0.out)
                                              subst hv46
                                              clear hcc46 hcl46
                                              replace ge46_0 := (show Kd.R (Kd.int .i64) 2 _ _ _ _ (rd_L1 x7_3 x9_2) from ge46_0)
                                              have HP46 := Kd.R_putg ge46_0 (x10_3 : Int) t147
                                              try go_wp2_with (first | ((with_reducible refine gate_store (t := 2) (p := 108) rfl ?_); refine store_event (t := 2) (p := 108) (v := ?vo_w47) (w1 := (w45.setCell ⟨go43, (x10_3 : Int).toNat, none⟩ (.int .i64 t147))) ?hg ?ho ?hn ?hr ?_; (case ho => rfl); (case hg => rfl); (case hn => rfl); (case hr => first | (go_simp; done) | (go_simp; rfl)); intro w47 hw; have hg : w45.grownBy w47 (some go43) := (by rw [hw]; exact HP46.2); have hz_ : Kd.R (Kd.int .i64) 2 w47 w.heap.size oki46 (.slice (some ⟨go43, 0, none⟩) (rd_L1 x7_3 x9_2).length c148_0) y149 := (by rw [hw, Ny149.out]; exact HP46.1); have hp_ : Kd.S (Kd.slice 2 (Kd.int .i64)) 24 w47 w.heap.size (fun _ => True) (.slice (some ad137) x7_3.length co44) y151 := (by rw [Ny151.out]; exact hbk46 hg (fun k_ e_ => by injection e_ with e_; subst e_; exact ge46_0.1 _ rfl) (Kd.M_row hz_)); have hm_ := Kd.R_mono hz_ hok46; clear HP46 hbk46; have n0_ := Aside0.mk (hp_); have n1_ := Aside0.mk ((by rw [hw]; exact below_set (HB.out) GB43.out : Below w.heap.size w w47)); have n2_ := Aside0.mk (hm_); have n3_ := Aside0.mk ((Kd.R_reads' hm_).2.1); clear HO_7; clear HB; clear HL137_0; clear HL139_0; clear HL142_0; clear HL148_0; have HO_7 := n0_; have HB := n1_; have HL157 := n2_; have HC150 := n3_; clear n0_ n1_ n2_ n3_; clear hg hw hp_ hz_ hm_ hok46))
                                              go_roundg k3
                                              case measure => have := HK1.out; have := HK2.out; have := HK3.out; omega
                                              case rel => exact ⟨(y151), (wrap64 (x10_3 - 1)), (by first | rfl | (simp; done) | (simp [*]; done)), H', ⟨by have := HK1.out; have := HK2.out; have := HK3.out; omega⟩, ⟨by (with_reducible repeat (first | apply Kd.S_alloc | apply Kd.S_drewN | apply Kd.S_drew)); exact HO_7.out⟩, ⟨by repeat (first | (with_reducible first | exact HB.out | apply below_alloc | apply pw_below_drewN | apply below_drew1) | exact HB.out)⟩⟩
                                            · rw [if_neg c42] at H
                                              exact absurd H (by simp)
                                          · rw [if_neg c39] at H
                                            exact absurd H (by simp)
                                        · rw [if_neg c38] at H
                                          exact absurd H (by simp)
                                      · rw [if_neg c36] at H
                                        exact absurd H (by simp)
                                    · rw [if_neg c35] at H
                                      exact absurd H (by simp)
                                  · rw [if_neg c33] at H
                                    exact absurd H (by simp)
                                · rw [if_neg c32] at H
                                  exact absurd H (by simp)
                              · rw [if_neg c31] at H
                                have c31b0 : decide (x10_3 < (l1.length : Int)) = false := decide_eq_false c31
                                clear c31
                                by_cases c48 : 0 ≤ x9_2
                                · rw [if_pos c48] at H
                                  have c48b0 : decide (0 ≤ x9_2) = true := decide_eq_true c48
                                  clear c48
                                  by_cases c49 : x9_2 < (x7_3.length : Int)
                                  · rw [if_pos c49] at H
                                    have c49b0 : decide (x9_2 < (x7_3.length : Int)) = true := decide_eq_true c49
                                    clear c49
                                    by_cases c50 : x10_3 < ((rd_L1 x7_3 x9_2).length : Int)
                                    · rw [if_pos c50] at H
                                      have c50b0 : decide (x10_3 < ((rd_L1 x7_3 x9_2).length : Int)) = true := decide_eq_true c50
                                      clear c50
                                      obtain ⟨y153, hy153⟩ : ∃ y_ : List Int, y_ = ((rd_L1 x7_3 x9_2).set (x10_3 : Int).toNat (wrap64 ((rd (rd_L1 x7_3 (ji26)) x10_3) + a2))) := ⟨_, rfl⟩
                                      replace H : (spec_l24Costs.l2 k3 l0 l1 a2 (x7_3.set (x9_2 : Int).toNat y153) x9_2 (wrap64 (x10_3 - 1))) = some r := by first | (rw [hy153]; with_reducible exact H) | (have H2_ := (Option.bind_some _ _).symm.trans H; rw [hy153]; with_reducible exact H2_) | (have H2_ := (Option.bind_some _ _).symm.trans H; with_reducible exact H2_) | with_reducible exact H | (rw [hy153]; exact H) | exact H
                                      have Ny153 := Aside0.mk hy153
                                      clear hy153
                                      obtain ⟨y155, hy155⟩ : ∃ y_ : List (List Int), y_ = (x7_3.set (x9_2 : Int).toNat y153) := ⟨_, rfl⟩
                                      replace H : (spec_l24Costs.l2 k3 l0 l1 a2 y155 x9_2 (wrap64 (x10_3 - 1))) = some r := by first | (rw [hy155]; with_reducible exact H) | (have H2_ := (Option.bind_some _ _).symm.trans H; rw [hy155]; with_reducible exact H2_) | (have H2_ := (Option.bind_some _ _).symm.trans H; with_reducible exact H2_) | with_reducible exact H | (rw [hy155]; exact H) | exact H
                                      have Ny155 := Aside0.mk hy155
                                      clear hy155
                                      have H' := Aside0.mk H
                                      clear H
                                      obtain ⟨Ao52, co52, eo52⟩ := Kd.S_slice HO_7.out
                                      subst eo52
                                      have p137 : 0 ≤ ((ji26) : Int) := of_decide_eq_true (by first | (with_reducible assumption) | assumption)
                                      have q137 : (ji26) < (x7_3.length : Int) := of_decide_eq_true (by first | (with_reducible assumption) | assumption)
                                      obtain ⟨ad137, A137_0, c137_0, e137, hx137_0, hl137_0, hi137_0⟩ := at_L1 (Kd.S_reads' HO_7.out).2.2 (ji26) p137 q137
                                      cases e137
                                      obtain ⟨ce137, hce137, hMe137, hcc137⟩ := Kd.S_get HO_7.out [] (ji26) p137 (by first | exact q137 | exact of_decide_eq_true (by first | (with_reducible assumption) | assumption) | (have e_ := (Kd.S_reads' HO_7.out).1; omega))
                                      obtain ⟨ve137_0, rfl, ge137_0⟩ := hMe137
                                      have hv137_0 := hcc137 0 _ rfl
                                      rw [Nat.add_zero, show ((Kd.slice 2 (Kd.int .i64))).sz = 1 from rfl, Nat.mul_one] at hv137_0
                                      replace hv137_0 := Option.some.inj (hv137_0.symm.trans hx137_0)
                                      rw [hv137_0] at ge137_0
                                      have HL137_0 := Aside0.mk (show Kd.R (Kd.int .i64) 2 _ _ _ _ (rd_L1 x7_3 (ji26)) from ge137_0)
                                      clear hv137_0 ge137_0
                                      have HX137_0 := Aside0.mk hx137_0
                                      clear hcc137 hce137
                                      have HR137_0 := Aside0.mk hi137_0
                                      have HC137_0 := Aside0.mk hl137_0
                                      clear hi137_0 hl137_0
                                      replace p137 := eq_true p137
                                      replace q137 := eq_true q137
                                      have p138 : 0 ≤ (x10_3 : Int) := of_decide_eq_true (by first | (with_reducible assumption) | assumption)
                                      have q138 : x10_3 < ((rd_L1 x7_3 (ji26)).length : Int) := of_decide_eq_true (by first | (with_reducible assumption) | assumption)
                                      obtain ⟨ad138, e138, hx138_0⟩ := Kd.at_int (by repeat (first | (with_reducible exact HR137_0.out) | (with_reducible refine Kd.C_alloc ?_ _) | (with_reducible refine Kd.C_drewN ?_ _) | (with_reducible refine Kd.C_drew ?_) | exact HR137_0.out)) x10_3 p138 q138
                                      cases e138
                                      replace p138 := eq_true p138
                                      replace q138 := eq_true q138
                                      have p152 : 0 ≤ (x9_2 : Int) := of_decide_eq_true (by first | (with_reducible assumption) | assumption)
                                      have q152 : x9_2 < (x7_3.length : Int) := of_decide_eq_true (by first | (with_reducible assumption) | assumption)
                                      obtain ⟨ad152, A152_0, c152_0, e152, hx152_0, hl152_0, hi152_0⟩ := at_L1 (Kd.S_reads' HO_7.out).2.2 x9_2 p152 q152
                                      obtain rfl : ad137 = ad152 := (by injection e152)
                                      obtain ⟨ce152, hce152, hMe152, hcc152⟩ := Kd.S_get HO_7.out [] x9_2 p152 (by first | exact q152 | exact of_decide_eq_true (by first | (with_reducible assumption) | assumption) | (have e_ := (Kd.S_reads' HO_7.out).1; omega))
                                      obtain ⟨ve152_0, rfl, ge152_0⟩ := hMe152
                                      have hv152_0 := hcc152 0 _ rfl
                                      rw [Nat.add_zero, show ((Kd.slice 2 (Kd.int .i64))).sz = 1 from rfl, Nat.mul_one] at hv152_0
                                      replace hv152_0 := Option.some.inj (hv152_0.symm.trans hx152_0)
                                      rw [hv152_0] at ge152_0
                                      have HL152_0 := Aside0.mk (show Kd.R (Kd.int .i64) 2 _ _ _ _ (rd_L1 x7_3 x9_2) from ge152_0)
                                      clear hv152_0 ge152_0
                                      have HX152_0 := Aside0.mk hx152_0
                                      clear hcc152 hce152
                                      have HR152_0 := Aside0.mk hi152_0
                                      have HC152_0 := Aside0.mk hl152_0
                                      clear hi152_0 hl152_0
                                      replace p152 := eq_true p152
                                      replace q152 := eq_true q152
                                      have p51 : 0 ≤ (x10_3 : Int) := of_decide_eq_true (by first | (with_reducible assumption) | assumption)
                                      have q51 : (x10_3 : Int) < (((rd_L1 x7_3 x9_2).length : Int) : Int) := of_decide_eq_true (by first | (with_reducible assumption) | assumption)
                                      obtain ⟨go51, co51, eo51, gb51, gl51, cl51, HG51⟩ := Kd.R_form HL152_0.out (by omega)
                                      (first | cases eo51 | (injection eo51 with ea_ en_ ec_; (first | subst ea_ | (injection ea_ with ea_; subst ea_)); subst ec_; clear en_))
                                      have GB51 := Aside0.mk gb51
                                      have GG51 := Aside0.mk HG51
                                      clear gb51 gl51 HG51
                                      obtain ⟨hx51_0, hf51_0⟩ := Kd.R_celln 0 HL152_0.out (x10_3 : Int) p51 q51
                                      replace p51 := eq_true p51
                                      replace q51 := eq_true q51
                                      have hq53 : (x9_2 : Int) < (x7_3.length : Int) := (by have h_ : (x9_2 : Int) < ((x7_3.length : Int) : Int) := of_decide_eq_true (by first | (with_reducible assumption) | assumption); first | exact h_ | (have e_ := (Kd.S_reads' HO_7.out).1; omega) | simpa only [List.length_set, List.length_set] using h_)
                                      obtain ⟨oki53, ce53, hcl53, hM53, hcc53, hok53, hbk53⟩ := Kd.S_borrow HO_7.out [] (x9_2 : Int) (of_decide_eq_true (by first | (with_reducible assumption) | assumption)) hq53
                                      obtain ⟨ve53_0, rfl, ge53_0⟩ := hM53
                                      have hv53 := hcc53 0 _ rfl
                                      rw [Nat.add_zero, show ((Kd.slice 2 (Kd.int .i64))).sz = 1 from rfl, Nat.mul_one] at hv53
                                      replace hv53 := Option.some.inj (hv53.symm.trans HX152_0.out)
                                      subst hv53
                                      clear hcc53 hcl53
                                      replace ge53_0 := (show Kd.R (Kd.int .i64) 2 _ _ _ _ (rd_L1 x7_3 x9_2) from ge53_0)
                                      have HP53 := Kd.R_putg ge53_0 (x10_3 : Int) (wrap64 ((rd (rd_L1 x7_3 (ji26)) x10_3) + a2))
                                      go_wp2_with (first | ((with_reducible refine gate_store (t := 2) (p := 108) rfl ?_); refine store_event (t := 2) (p := 108) (v := ?vo_w54) (w1 := (wr.setCell ⟨go51, (x10_3 : Int).toNat, none⟩ (.int .i64 (wrap64 ((rd (rd_L1 x7_3 (ji26)) x10_3) + a2))))) ?hg ?ho ?hn ?hr ?_; (case ho => rfl); (case hg => rfl); (case hn => rfl); (case hr => first | (go_simp; done) | (go_simp; rfl)); intro w54 hw; have hg : wr.grownBy w54 (some go51) := (by rw [hw]; exact HP53.2); have hz_ : Kd.R (Kd.int .i64) 2 w54 w.heap.size oki53 (.slice (some ⟨go51, 0, none⟩) (rd_L1 x7_3 x9_2).length c152_0) y153 := (by rw [hw, Ny153.out]; exact HP53.1); have hp_ : Kd.S (Kd.slice 2 (Kd.int .i64)) 24 w54 w.heap.size (fun _ => True) (.slice (some ad137) x7_3.length co52) y155 := (by rw [Ny155.out]; exact hbk53 hg (fun k_ e_ => by injection e_ with e_; subst e_; exact ge53_0.1 _ rfl) (Kd.M_row hz_)); have hm_ := Kd.R_mono hz_ hok53; clear HP53 hbk53; have n0_ := Aside0.mk (hp_); have n1_ := Aside0.mk ((by rw [hw]; exact below_set (HB.out) GB51.out : Below w.heap.size w w54)); have n2_ := Aside0.mk (hm_); have n3_ := Aside0.mk ((Kd.R_reads' hm_).2.1); clear HO_7; clear HB; clear HL137_0; clear HL152_0; have HO_7 := n0_; have HB := n1_; have HL158 := n2_; have HC154 := n3_; clear n0_ n1_ n2_ n3_; clear hg hw hp_ hz_ hm_ hok53))
                                      go_roundg k3
                                      case measure => have := HK1.out; have := HK2.out; have := HK3.out; omega
                                      case rel => exact ⟨(y155), (wrap64 (x10_3 - 1)), (by first | rfl | (simp; done) | (simp [*]; done)), H', ⟨by have := HK1.out; have := HK2.out; have := HK3.out; omega⟩, ⟨by (with_reducible repeat (first | apply Kd.S_alloc | apply Kd.S_drewN | apply Kd.S_drew)); exact HO_7.out⟩, ⟨by repeat (first | (with_reducible first | exact HB.out | apply below_alloc | apply pw_below_drewN | apply below_drew1) | exact HB.out)⟩⟩
                                    · rw [if_neg c50] at H
                                      exact absurd H (by simp)
                                  · rw [if_neg c49] at H
                                    exact absurd H (by simp)
                                · rw [if_neg c48] at H
                                  exact absurd H (by simp)
                            · rw [if_neg c30] at H
                              exact absurd H (by simp)
                          · rw [if_neg c29] at H
                            exact absurd H (by simp)
                        · rw [if_neg c28] at H
                          exact absurd H (by simp)
                      · rw [if_neg c27] at H
                        exact absurd H (by simp)
                  · rw [if_neg c16] at H
                    have c16b0 : decide (0 ≤ x10_3) = false := decide_eq_false c16
                    clear c16
                    have H' := Aside0.mk H
                    clear H
                    go_wp2
                    go_roundg k3
                    case measure => have := HK1.out; have := HK2.out; have := HK3.out; omega
                    case rel => exact ⟨(x7_3), (wrap64 (x9_2 - 1)), (by first | rfl | (simp; done) | (simp [*]; done)), H', ⟨by have := HK1.out; have := HK2.out; have := HK3.out; omega⟩, ⟨by (with_reducible repeat (first | apply Kd.S_alloc | apply Kd.S_drewN | apply Kd.S_drew)); exact HO_7.out⟩, ⟨by repeat (first | (with_reducible first | exact HB.out | apply below_alloc | apply pw_below_drewN | apply below_drew1) | exact HB.out)⟩⟩
            · rw [if_neg c15] at H
              have c15b0 : decide (0 ≤ x9_2) = false := decide_eq_false c15
              clear c15
              obtain rfl := Option.some.inj H
              go_wp2
              go_ret
              exact ⟨_, by first | rfl | (simp [errW_none, errW_some] <;> rfl) | (simp [*, errW_none, errW_some] <;> rfl), by (with_reducible repeat (first | apply Kd.S_alloc | apply Kd.S_drewN | apply Kd.S_drew)); exact HO_7.out, by repeat (first | (with_reducible first | exact HB.out | apply below_alloc | apply pw_below_drewN | apply below_drew1) | exact HB.out)⟩

end Go.Proofs.Ytoohfhgmflgmcaa.PFnExactBestShift
