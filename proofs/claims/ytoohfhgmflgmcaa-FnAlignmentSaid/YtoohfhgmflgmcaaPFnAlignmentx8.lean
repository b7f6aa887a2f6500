-- written by xprint.py, a program of this repo over the kit's print; not trusted: Lean checks it
import Derived.Test.YtoohfhgmflgmcaaPFnAlignmentx0
import Derived.Test.YtoohfhgmflgmcaaPFnAlignmentx4
import Derived.Test.YtoohfhgmflgmcaaPFnAlignmentx5
import Derived.Test.YtoohfhgmflgmcaaPFnAlignmentx7
namespace Go.Proofs.Ytoohfhgmflgmcaa.PFnAlignment
open Go.RowKit Go.Proofs.YtoohfhgmflgmcaaW.PrintWords Go.Proofs.YtoohfhgmflgmcaaW.PrintLast Go.Proofs.YtoohfhgmflgmcaaW.PrintMore
attribute [local go_sem] max2_int min2_int max_two min_two max_three min_three max_four min_four   -- for this text's walks alone
set_option linter.unusedVariables false
set_option linter.unusedSimpArgs false

/-! ### impl_BestShift: function 14, by hand -/
def bs_step (k : Nat) (l0 l1 : List Int) (a2 y : Int) (s : Int × Int) : Option (Int × Int) := (impl_shiftedBy.f k l1 y).bind fun out => (impl_ValidOnsets.f k out).bind fun b => if b = true then (impl_align.f l0 out a2).bind fun c => some (if c.2 < s.2 then (y, c.2) else s) else some s
def bs_n (k : Nat) (l0 l1 : List Int) (a2 a4 : Int) : Nat → Int → Int × Int → Option (Int × Int)
  | 0, _, s => some s
  | d + 1, n, s => (bs_step k l0 l1 a2 (n * a4) s).bind fun s1 => (bs_step k l0 l1 a2 (-n * a4) s1).bind fun s2 => bs_n k l0 l1 a2 a4 d (n + 1) s2
def impl_BestShift.f (k : Nat) (l0 l1 : List Int) (a2 a3 a4 : Int) : Option (Int × Int × Int) := (impl_ValidOnsets.f k l0).bind fun b0 => if b0 = true then (impl_ValidOnsets.f k l1).bind fun b1 => if b1 = true then (if (0 ≤ a2 ∧ a2 ≤ 1000000) then (if (0 ≤ a3 ∧ a3 ≤ 20) then (if (1 ≤ a4 ∧ a4 ≤ 10000000) then (impl_align.f l0 l1 a2).bind fun c => (bs_n k l0 l1 a2 a4 a3.toNat 1 (0, c.2)).bind fun s => some (s.1, s.2, 0) else some (0, 0, 2)) else some (0, 0, 2)) else some (0, 0, 2)) else some (0, 0, 1) else some (0, 0, 1)
theorem bs_step.mono (l0 l1 : List Int) (a2 y : Int) (s : Int × Int) (k : Nat) : LeO (bs_step k l0 l1 a2 y s) (bs_step (k + 1) l0 l1 a2 y s) := by
  unfold bs_step
  exact LeO.bind (impl_shiftedBy.mono _ _ _) (fun _ => LeO.bind (impl_ValidOnsets.mono _ _) (fun _ => LeO.refl _))
theorem bs_n.mono (l0 l1 : List Int) (a2 a4 : Int) (k : Nat) : ∀ d n s, LeO (bs_n k l0 l1 a2 a4 d n s) (bs_n (k + 1) l0 l1 a2 a4 d n s) := by
  intro d
  induction d with
  | zero => intro n s; exact LeO.refl _
  | succ d ih =>
    intro n s
    exact LeO.bind (bs_step.mono _ _ _ _ _ _) (fun _ => LeO.bind (bs_step.mono _ _ _ _ _ _) (fun _ => ih _ _))
theorem impl_BestShift.mono : ∀ a0 a1 a2 a3 a4 k, LeO (impl_BestShift.f k a0 a1 a2 a3 a4) (impl_BestShift.f (k + 1) a0 a1 a2 a3 a4) := by
  intro a0 a1 a2 a3 a4 k
  unfold impl_BestShift.f
  refine LeO.bind (impl_ValidOnsets.mono _ _) (fun _ => LeO.ite ?_ (LeO.refl _))
  refine LeO.bind (impl_ValidOnsets.mono _ _) (fun _ => LeO.ite ?_ (LeO.refl _))
  refine LeO.ite (LeO.ite (LeO.ite ?_ (LeO.refl _)) (LeO.refl _)) (LeO.refl _)
  exact LeO.bind (LeO.refl _) (fun _ => LeO.bind (bs_n.mono _ _ _ _ _ _ _ _) (fun _ => LeO.refl _))
theorem bs_within (a b c : Int) : impl_within.f a b c = some (decide (b ≤ a ∧ a ≤ c)) := by
  unfold impl_within.f
  split
  · rename_i h
    congr 1
    rw [decide_eq_decide]
    omega
  · rename_i h
    rw [decide_eq_false (by omega)]
theorem bs_ix0 (a b : Int) (W : World) : (Instr.index 57 (.agg #[.int .i64 a, .int .i64 b]) (.int .i64 0)).run Try.prog W = .ok (.int .i64 a) W := by
  obtain ⟨i2, hi2, hz2, hs2, hb2⟩ := info_parts (show (Try.prog.info? 2).map (fun i => (i.zero, i.size, i.bytes)) = some (some (.int .i64 0), 1, 8) by kernel_rfl)
  have hu := run_underlying (P := Try.prog) (show Try.prog.underlying 57 = some (.array 2 2) by kernel_rfl) W
  simp [Instr.index, asIntOf, hu, part, sizeOf, typeInfo, hi2, hs2]
theorem bs_ix1 (a b : Int) (W : World) : (Instr.index 57 (.agg #[.int .i64 a, .int .i64 b]) (.int .i64 1)).run Try.prog W = .ok (.int .i64 b) W := by
  obtain ⟨i2, hi2, hz2, hs2, hb2⟩ := info_parts (show (Try.prog.info? 2).map (fun i => (i.zero, i.size, i.bytes)) = some (some (.int .i64 0), 1, 8) by kernel_rfl)
  have hu := run_underlying (P := Try.prog) (show Try.prog.underlying 57 = some (.array 2 2) by kernel_rfl) W
  simp [Instr.index, asIntOf, hu, part, sizeOf, typeInfo, hi2, hs2]
def bs_rest (k : Nat) (l0 l1 : List Int) (a2 a4 : Int) (d : Nat) (n : Int) : Nat → Int × Int → Option (Int × Int)
  | 0, s => (bs_step k l0 l1 a2 (n * a4) s).bind fun s1 => (bs_step k l0 l1 a2 (-n * a4) s1).bind fun s2 => bs_n k l0 l1 a2 a4 d (n + 1) s2
  | 1, s => (bs_step k l0 l1 a2 (-n * a4) s).bind fun s2 => bs_n k l0 l1 a2 a4 d (n + 1) s2
  | _, s => bs_n k l0 l1 a2 a4 d (n + 1) s
set_option maxHeartbeats 8000000 in
set_option maxRecDepth 100000 in
theorem impl_BestShift.calls (k : Nat) (A0 : Option Addr) (c0 : Nat) (l0 : List Int) (A1 : Option Addr) (c1 : Nat) (l1 : List Int) (a2 a3 a4 : Int) (r1 r2 r3 : Int) (w : World) (hr0 : Kd.C (Kd.int .i64) w A0 l0.length l0) (hc0 : l0.length ≤ c0) (hr1 : Kd.C (Kd.int .i64) w A1 l1.length l1) (hc1 : l1.length ≤ c1) (h : impl_BestShift.f k l0 l1 a2 a3 a4 = some (r1, r2, r3)) :
    Calls Try.prog 14 #[.slice A0 l0.length c0, .slice A1 l1.length c1, .int .i64 a2, .int .i64 a3, .int .i64 a4] w fun e w' => e = .returned (.tuple #[.int .i64 r1, .int .i64 r2, .int .i64 r3]) ∧ Below w.heap.size w w' := by
  have HR0 := Aside0.mk hr0
  have HC0 := Aside0.mk hc0
  have HR1 := Aside0.mk hr1
  have HC1 := Aside0.mk hc1
  clear hr0 hr1 hc0 hc1
  unfold impl_BestShift.f at h
  obtain ⟨b0, hb0, H⟩ := Option.bind_eq_some_iff.mp h
  clear h
  have V0 := Aside0.mk hb0
  clear hb0
  cases b0 with
  | false =>
    rw [if_neg (by simp)] at H
    simp only [Option.some.injEq, Prod.mk.injEq] at H
    obtain ⟨rfl, rfl, rfl⟩ := H
    go_enter Try.func14, Try.ntmps14
    go_wp2_with (fail)
    refine (impl_ValidOnsets.calls k A0 c0 l0 false _ (Kd.C_below HR0.out (Below.refl w.heap.size w)) HC0.out V0.out).mono ?_
    rintro e w2 ⟨rfl, hb_⟩
    have HB2 : Aside0 (Below w.heap.size w w2) := ⟨below_then (Below.refl w.heap.size w) ((Below.refl w.heap.size w)).size hb_⟩
    clear hb_
    dsimp only
    go_wp2_with (fail)
    go_ret3
    exact ⟨rfl, HB2.out⟩
  | true =>
    rw [if_pos rfl] at H
    obtain ⟨b1, hb1, H⟩ := Option.bind_eq_some_iff.mp H
    have V1 := Aside0.mk hb1
    clear hb1
    cases b1 with
    | false =>
      rw [if_neg (by simp)] at H
      simp only [Option.some.injEq, Prod.mk.injEq] at H
      obtain ⟨rfl, rfl, rfl⟩ := H
      go_enter Try.func14, Try.ntmps14
      go_wp2_with (fail)
      refine (impl_ValidOnsets.calls k A0 c0 l0 true _ (Kd.C_below HR0.out (Below.refl w.heap.size w)) HC0.out V0.out).mono ?_
      rintro e w2 ⟨rfl, hb_⟩
      have HB2 : Aside0 (Below w.heap.size w w2) := ⟨below_then (Below.refl w.heap.size w) ((Below.refl w.heap.size w)).size hb_⟩
      clear hb_
      dsimp only
      go_wp2_with (fail)
      refine (impl_ValidOnsets.calls k A1 c1 l1 false _ (Kd.C_below HR1.out HB2.out) HC1.out V1.out).mono ?_
      rintro e w3 ⟨rfl, hb_⟩
      have HB3 : Aside0 (Below w.heap.size w w3) := ⟨below_then HB2.out (HB2.out).size hb_⟩
      clear hb_
      dsimp only
      go_wp2_with (fail)
      go_ret3
      exact ⟨rfl, HB3.out⟩
    | true =>
      rw [if_pos rfl] at H
      by_cases hm2 : 0 ≤ a2 ∧ a2 ≤ 1000000
      · rw [if_pos hm2] at H
        by_cases hm3 : 0 ≤ a3 ∧ a3 ≤ 20
        · rw [if_pos hm3] at H
          by_cases hm4 : 1 ≤ a4 ∧ a4 ≤ 10000000
          · rw [if_pos hm4] at H
            obtain ⟨⟨c1_, c2_⟩, hc, H⟩ := Option.bind_eq_some_iff.mp H
            have AL := Aside0.mk hc
            clear hc
            obtain ⟨⟨s1, s2⟩, hs, H⟩ := Option.bind_eq_some_iff.mp H
            simp only [Option.some.injEq, Prod.mk.injEq] at H
            obtain ⟨rfl, rfl, rfl⟩ := H
            have HS := Aside0.mk hs
            clear hs
            go_enter Try.func14, Try.ntmps14
            go_wp2_with (fail)
            refine (impl_ValidOnsets.calls k A0 c0 l0 true _ (Kd.C_below HR0.out (Below.refl w.heap.size w)) HC0.out V0.out).mono ?_
            rintro e w2 ⟨rfl, hb_⟩
            have HB2 : Aside0 (Below w.heap.size w w2) := ⟨below_then (Below.refl w.heap.size w) ((Below.refl w.heap.size w)).size hb_⟩
            clear hb_
            dsimp only
            go_wp2_with (fail)
            refine (impl_ValidOnsets.calls k A1 c1 l1 true _ (Kd.C_below HR1.out HB2.out) HC1.out V1.out).mono ?_
            rintro e w3 ⟨rfl, hb_⟩
            have HB3 : Aside0 (Below w.heap.size w w3) := ⟨below_then HB2.out (HB2.out).size hb_⟩
            clear hb_
            dsimp only
            go_wp2_with (fail)
            refine (impl_within.calls a2 0 1000000 true _ (by rw [bs_within, decide_eq_true hm2])).mono ?_
            rintro e w4 ⟨rfl, ⟨nd_w4, rfl⟩⟩
            dsimp only
            go_wp2_with (fail)
            refine (impl_within.calls a3 0 20 true _ (by rw [bs_within, decide_eq_true hm3])).mono ?_
            rintro e w5 ⟨rfl, ⟨nd_w5, rfl⟩⟩
            dsimp only
            go_wp2_with (fail)
            refine (impl_within.calls a4 1 10000000 true _ (by rw [bs_within, decide_eq_true hm4])).mono ?_
            rintro e w6 ⟨rfl, ⟨nd_w6, rfl⟩⟩
            dsimp only
            go_wp2_with (fail)
            refine (impl_align.calls A0 c0 l0 A1 c1 l1 a2 c1_ c2_ _ (Kd.C_below HR0.out (by repeat (first | exact HB3.out | apply pw_below_drewN | apply below_drew1))) HC0.out (Kd.C_below HR1.out (by repeat (first | exact HB3.out | apply pw_below_drewN | apply below_drew1))) HC1.out AL.out).mono ?_
            rintro e w8 ⟨v8, rfl, hR8, hb_⟩
            have HB8 : Aside0 (Below w.heap.size w w8) := ⟨below_then (by repeat (first | exact HB3.out | apply pw_below_drewN | apply below_drew1)) (by exact HB3.out.size) hb_⟩
            clear hb_ hR8
            dsimp only
            go_wp2_with (fail)
            go_loopg [14, 15, 16] a3.toNat (fun gg v14 v15 v16 wr => ∃ (d : Nat) (n s1_ s2_ : Int), n + d = a3 + 1 ∧ 1 ≤ n ∧ d ≤ gg ∧ v16 = .int .i64 n ∧ v14 = .int .i64 s2_ ∧ v15 = .int .i64 s1_ ∧ Aside0 (bs_n k l0 l1 a2 a4 d n (s1_, s2_) = some (s1, s2)) ∧ Aside0 (Below w.heap.size w wr))
            case atStart => exact ⟨a3.toNat, 1, 0, c2_, by omega, by omega, Nat.le_refl _, rfl, rfl, rfl, HS, HB8⟩
            case round => as_aux_lemma =>
              obtain ⟨d, n, s1_, s2_, hd, hn, hg, rfl, rfl, rfl, HN, BW⟩ := hrel
              cases d with
              | zero =>
                have hle : decide (n ≤ a3) = false := decide_eq_false (by omega)
                have hN := HN.out
                simp only [bs_n, Option.some.injEq, Prod.mk.injEq] at hN
                obtain ⟨rfl, rfl⟩ := hN
                go_wp2_with (fail)
                go_ret3
                exact ⟨rfl, BW.out⟩
              | succ d =>
                have hle : decide (n ≤ a3) = true := decide_eq_true (by omega)
                have hmul0 := al_mul (a := a4) (x := n) (by omega) (by omega) (by omega) (by omega)
                have hmul : 0 ≤ n * a4 ∧ n * a4 ≤ 2000000000000 := by rw [Int.mul_comm]; exact hmul0
                have hneg : -n * a4 = -(n * a4) := Int.neg_mul n a4
                have hnegb : -2000000000000 ≤ -n * a4 ∧ -n * a4 ≤ 0 := by rw [hneg]; omega
                clear hmul0 hneg
                go_wp2_with (fail)
                go_loopg [14, 15, 65] 2 (fun gg v14 v15 v65 wr => ∃ (j : Nat) (s1_ s2_ : Int), j ≤ 2 ∧ 2 - j ≤ gg ∧ v65 = .int .i64 (j : Int) ∧ v14 = .int .i64 s2_ ∧ v15 = .int .i64 s1_ ∧ Aside0 (bs_rest k l0 l1 a2 a4 d n j (s1_, s2_) = some (s1, s2)) ∧ Aside0 (Below w.heap.size w wr))
                case atStart => exact ⟨0, s1_, s2_, by omega, by omega, rfl, rfl, rfl, HN, BW⟩
                case round => as_aux_lemma =>
                  obtain ⟨j, t1, t2, hj, hg2, rfl, rfl, rfl, HT, BX⟩ := hrel
                  have hj3 : j = 0 ∨ j = 1 ∨ j = 2 := by omega
                  rcases hj3 with rfl | rfl | rfl
                  · have hT := HT.out
                    simp only [bs_rest] at hT
                    obtain ⟨⟨u1, u2⟩, hst, hT⟩ := Option.bind_eq_some_iff.mp hT
                    have HT2 : Aside0 (bs_rest k l0 l1 a2 a4 d n 1 (u1, u2) = some (s1, s2)) := ⟨hT⟩
                    clear hT
                    unfold bs_step at hst
                    obtain ⟨out, ho, hst⟩ := Option.bind_eq_some_iff.mp hst
                    obtain ⟨b, hb, hst⟩ := Option.bind_eq_some_iff.mp hst
                    have HO := Aside0.mk ho
                    have HV := Aside0.mk hb
                    clear ho hb
                    have HST := Aside0.mk hst
                    clear hst
                    have hix := bs_ix0 (n * a4) (-n * a4)
                    go_wp2_with (fail)
                    refine (impl_shiftedBy.calls k A1 c1 l1 (n * a4) out _ (Kd.C_below HR1.out BX.out) HC1.out HO.out).mono ?_
                    rintro e wa ⟨va, rfl, hRa, hb_⟩
                    have BA : Aside0 (Below w.heap.size w wa) := ⟨below_then BX.out BX.out.size hb_⟩
                    clear hb_
                    obtain ⟨Aa, ca, rfl⟩ := Kd.R_slice hRa
                    have hCa := (Kd.R_reads' hRa).2.2
                    have hca := (Kd.R_reads' hRa).2.1
                    have CA := Aside0.mk hCa
                    have LA := Aside0.mk hca
                    clear hCa hca hRa
                    dsimp only
                    go_wp2_with (fail)
                    refine (impl_ValidOnsets.calls k Aa ca out b _ CA.out LA.out HV.out).mono ?_
                    rintro e wb ⟨rfl, hb_⟩
                    have BB : Aside0 (Below w.heap.size w wb) := ⟨below_then BA.out BA.out.size hb_⟩
                    have CB := Aside0.mk (Kd.C_below CA.out hb_)
                    clear hb_
                    dsimp only
                    cases b with
                    | false =>
                      have hq := HST.out
                      rw [if_neg (by simp)] at hq
                      simp only [Option.some.injEq, Prod.mk.injEq] at hq
                      obtain ⟨rfl, rfl⟩ := hq
                      go_wp2_with (fail)
                      go_roundg (2 - 1)
                      case measure => omega
                      case rel => exact ⟨1, t1, t2, by omega, by omega, by go_num, rfl, rfl, HT2, BB⟩
                    | true =>
                      have hq := HST.out
                      rw [if_pos rfl] at hq
                      obtain ⟨⟨d1, d2⟩, hal, hq⟩ := Option.bind_eq_some_iff.mp hq
                      have HAL := Aside0.mk hal
                      clear hal
                      go_wp2_with (fail)
                      refine (impl_align.calls A0 c0 l0 Aa ca out a2 d1 d2 _ (Kd.C_below HR0.out BB.out) HC0.out CB.out LA.out HAL.out).mono ?_
                      rintro e wd ⟨vd, rfl, hRd, hb_⟩
                      have BD : Aside0 (Below w.heap.size w wd) := ⟨below_then BB.out BB.out.size hb_⟩
                      clear hb_ hRd
                      dsimp only
                      by_cases hlt : d2 < t2
                      · rw [if_pos hlt] at hq
                        simp only [Option.some.injEq, Prod.mk.injEq] at hq
                        obtain ⟨rfl, rfl⟩ := hq
                        have hld : decide (d2 < t2) = true := decide_eq_true hlt
                        go_wp2_with (fail)
                        go_roundg (2 - 1)
                        case measure => omega
                        case rel => exact ⟨1, _, _, by omega, by omega, by go_num, rfl, rfl, HT2, BD⟩
                      · rw [if_neg hlt] at hq
                        simp only [Option.some.injEq, Prod.mk.injEq] at hq
                        obtain ⟨rfl, rfl⟩ := hq
                        have hld : decide (d2 < t2) = false := decide_eq_false hlt
                        go_wp2_with (fail)
                        go_roundg (2 - 1)
                        case measure => omega
                        case rel => exact ⟨1, _, _, by omega, by omega, by go_num, rfl, rfl, HT2, BD⟩
                  · have hT := HT.out
                    simp only [bs_rest] at hT
                    obtain ⟨⟨u1, u2⟩, hst, hT⟩ := Option.bind_eq_some_iff.mp hT
                    have HT2 : Aside0 (bs_rest k l0 l1 a2 a4 d n 2 (u1, u2) = some (s1, s2)) := ⟨hT⟩
                    clear hT
                    unfold bs_step at hst
                    obtain ⟨out, ho, hst⟩ := Option.bind_eq_some_iff.mp hst
                    obtain ⟨b, hb, hst⟩ := Option.bind_eq_some_iff.mp hst
                    have HO := Aside0.mk ho
                    have HV := Aside0.mk hb
                    clear ho hb
                    have HST := Aside0.mk hst
                    clear hst
                    have hix := bs_ix1 (n * a4) (-n * a4)
                    go_wp2_with (fail)
                    refine (impl_shiftedBy.calls k A1 c1 l1 (-n * a4) out _ (Kd.C_below HR1.out BX.out) HC1.out HO.out).mono ?_
                    rintro e wa ⟨va, rfl, hRa, hb_⟩
                    have BA : Aside0 (Below w.heap.size w wa) := ⟨below_then BX.out BX.out.size hb_⟩
                    clear hb_
                    obtain ⟨Aa, ca, rfl⟩ := Kd.R_slice hRa
                    have hCa := (Kd.R_reads' hRa).2.2
                    have hca := (Kd.R_reads' hRa).2.1
                    have CA := Aside0.mk hCa
                    have LA := Aside0.mk hca
                    clear hCa hca hRa
                    dsimp only
                    go_wp2_with (fail)
                    refine (impl_ValidOnsets.calls k Aa ca out b _ CA.out LA.out HV.out).mono ?_
                    rintro e wb ⟨rfl, hb_⟩
                    have BB : Aside0 (Below w.heap.size w wb) := ⟨below_then BA.out BA.out.size hb_⟩
                    have CB := Aside0.mk (Kd.C_below CA.out hb_)
                    clear hb_
                    dsimp only
                    cases b with
                    | false =>
                      have hq := HST.out
                      rw [if_neg (by simp)] at hq
                      simp only [Option.some.injEq, Prod.mk.injEq] at hq
                      obtain ⟨rfl, rfl⟩ := hq
                      go_wp2_with (fail)
                      go_roundg (2 - 2)
                      case measure => omega
                      case rel => exact ⟨2, t1, t2, by omega, by omega, by go_num, rfl, rfl, HT2, BB⟩
                    | true =>
                      have hq := HST.out
                      rw [if_pos rfl] at hq
                      obtain ⟨⟨d1, d2⟩, hal, hq⟩ := Option.bind_eq_some_iff.mp hq
                      have HAL := Aside0.mk hal
                      clear hal
                      go_wp2_with (fail)
                      refine (impl_align.calls A0 c0 l0 Aa ca out a2 d1 d2 _ (Kd.C_below HR0.out BB.out) HC0.out CB.out LA.out HAL.out).mono ?_
                      rintro e wd ⟨vd, rfl, hRd, hb_⟩
                      have BD : Aside0 (Below w.heap.size w wd) := ⟨below_then BB.out BB.out.size hb_⟩
                      clear hb_ hRd
                      dsimp only
                      by_cases hlt : d2 < t2
                      · rw [if_pos hlt] at hq
                        simp only [Option.some.injEq, Prod.mk.injEq] at hq
                        obtain ⟨rfl, rfl⟩ := hq
                        have hld : decide (d2 < t2) = true := decide_eq_true hlt
                        go_wp2_with (fail)
                        go_roundg (2 - 2)
                        case measure => omega
                        case rel => exact ⟨2, _, _, by omega, by omega, by go_num, rfl, rfl, HT2, BD⟩
                      · rw [if_neg hlt] at hq
                        simp only [Option.some.injEq, Prod.mk.injEq] at hq
                        obtain ⟨rfl, rfl⟩ := hq
                        have hld : decide (d2 < t2) = false := decide_eq_false hlt
                        go_wp2_with (fail)
                        go_roundg (2 - 2)
                        case measure => omega
                        case rel => exact ⟨2, _, _, by omega, by omega, by go_num, rfl, rfl, HT2, BD⟩
                  · go_wp2_with (fail)
                    go_roundg d
                    case measure => omega
                    case rel => exact ⟨d, n + 1, t1, t2, by omega, by omega, Nat.le_refl _, by go_num, rfl, rfl, HT, BX⟩
          · rw [if_neg hm4] at H
            simp only [Option.some.injEq, Prod.mk.injEq] at H
            obtain ⟨rfl, rfl, rfl⟩ := H
            go_enter Try.func14, Try.ntmps14
            go_wp2_with (fail)
            refine (impl_ValidOnsets.calls k A0 c0 l0 true _ (Kd.C_below HR0.out (Below.refl w.heap.size w)) HC0.out V0.out).mono ?_
            rintro e w2 ⟨rfl, hb_⟩
            have HB2 : Aside0 (Below w.heap.size w w2) := ⟨below_then (Below.refl w.heap.size w) ((Below.refl w.heap.size w)).size hb_⟩
            clear hb_
            dsimp only
            go_wp2_with (fail)
            refine (impl_ValidOnsets.calls k A1 c1 l1 true _ (Kd.C_below HR1.out HB2.out) HC1.out V1.out).mono ?_
            rintro e w3 ⟨rfl, hb_⟩
            have HB3 : Aside0 (Below w.heap.size w w3) := ⟨below_then HB2.out (HB2.out).size hb_⟩
            clear hb_
            dsimp only
            go_wp2_with (fail)
            refine (impl_within.calls a2 0 1000000 true _ (by rw [bs_within, decide_eq_true hm2])).mono ?_
            rintro e w4 ⟨rfl, ⟨nd_w4, rfl⟩⟩
            dsimp only
            go_wp2_with (fail)
            refine (impl_within.calls a3 0 20 true _ (by rw [bs_within, decide_eq_true hm3])).mono ?_
            rintro e w5 ⟨rfl, ⟨nd_w5, rfl⟩⟩
            dsimp only
            go_wp2_with (fail)
            refine (impl_within.calls a4 1 10000000 false _ (by rw [bs_within, decide_eq_false hm4])).mono ?_
            rintro e w6 ⟨rfl, ⟨nd_w6, rfl⟩⟩
            dsimp only
            go_wp2_with (fail)
            go_ret3
            exact ⟨rfl, by repeat (first | exact HB3.out | apply pw_below_drewN | apply below_drew1)⟩
        · rw [if_neg hm3] at H
          simp only [Option.some.injEq, Prod.mk.injEq] at H
          obtain ⟨rfl, rfl, rfl⟩ := H
          go_enter Try.func14, Try.ntmps14
          go_wp2_with (fail)
          refine (impl_ValidOnsets.calls k A0 c0 l0 true _ (Kd.C_below HR0.out (Below.refl w.heap.size w)) HC0.out V0.out).mono ?_
          rintro e w2 ⟨rfl, hb_⟩
          have HB2 : Aside0 (Below w.heap.size w w2) := ⟨below_then (Below.refl w.heap.size w) ((Below.refl w.heap.size w)).size hb_⟩
          clear hb_
          dsimp only
          go_wp2_with (fail)
          refine (impl_ValidOnsets.calls k A1 c1 l1 true _ (Kd.C_below HR1.out HB2.out) HC1.out V1.out).mono ?_
          rintro e w3 ⟨rfl, hb_⟩
          have HB3 : Aside0 (Below w.heap.size w w3) := ⟨below_then HB2.out (HB2.out).size hb_⟩
          clear hb_
          dsimp only
          go_wp2_with (fail)
          refine (impl_within.calls a2 0 1000000 true _ (by rw [bs_within, decide_eq_true hm2])).mono ?_
          rintro e w4 ⟨rfl, ⟨nd_w4, rfl⟩⟩
          dsimp only
          go_wp2_with (fail)
          refine (impl_within.calls a3 0 20 false _ (by rw [bs_within, decide_eq_false hm3])).mono ?_
          rintro e w5 ⟨rfl, ⟨nd_w5, rfl⟩⟩
          dsimp only
          go_wp2_with (fail)
          go_ret3
          exact ⟨rfl, by repeat (first | exact HB3.out | apply pw_below_drewN | apply below_drew1)⟩
      · rw [if_neg hm2] at H
        simp only [Option.some.injEq, Prod.mk.injEq] at H
        obtain ⟨rfl, rfl, rfl⟩ := H
        go_enter Try.func14, Try.ntmps14
        go_wp2_with (fail)
        refine (impl_ValidOnsets.calls k A0 c0 l0 true _ (Kd.C_below HR0.out (Below.refl w.heap.size w)) HC0.out V0.out).mono ?_
        rintro e w2 ⟨rfl, hb_⟩
        have HB2 : Aside0 (Below w.heap.size w w2) := ⟨below_then (Below.refl w.heap.size w) ((Below.refl w.heap.size w)).size hb_⟩
        clear hb_
        dsimp only
        go_wp2_with (fail)
        refine (impl_ValidOnsets.calls k A1 c1 l1 true _ (Kd.C_below HR1.out HB2.out) HC1.out V1.out).mono ?_
        rintro e w3 ⟨rfl, hb_⟩
        have HB3 : Aside0 (Below w.heap.size w w3) := ⟨below_then HB2.out (HB2.out).size hb_⟩
        clear hb_
        dsimp only
        go_wp2_with (fail)
        refine (impl_within.calls a2 0 1000000 false _ (by rw [bs_within, decide_eq_false hm2])).mono ?_
        rintro e w4 ⟨rfl, ⟨nd_w4, rfl⟩⟩
        dsimp only
        go_wp2_with (fail)
        go_ret3
        exact ⟨rfl, by repeat (first | exact HB3.out | apply pw_below_drewN | apply below_drew1)⟩

/-! ### impl_ShiftOnsets: function 15 -/
def impl_ShiftOnsets.f (k : Nat) (l0 : List Int) (a1 : Int) : Option (List Int × Int) := (impl_ValidOnsets.f k l0).bind fun t310 => (if t310 = true then ((impl_within.f a1 (-10000000) 10000000).bind fun t311 => (if t311 = true then ((impl_shiftedBy.f k l0 a1).bind fun t312 => ((impl_ValidOnsets.f k t312).bind fun t315 => (if t315 = true then (some (t312, 0)) else (some (([] : List Int), 6))))) else (some (([] : List Int), 2)))) else (some (([] : List Int), 1)))
theorem impl_ShiftOnsets.mono : ∀ a0 a1 k, LeO (impl_ShiftOnsets.f k a0 a1) (impl_ShiftOnsets.f (k + 1) a0 a1) := by
  intro a0 a1 k
  unfold impl_ShiftOnsets.f
  repeat' first
      | (with_reducible exact impl_ValidOnsets.mono _ _)
      | (with_reducible exact impl_shiftedBy.mono _ _ _)
      | (with_reducible exact LeO.refl _)
      | (with_reducible exact LeO.none _)
      | (with_reducible refine LeO.ite ?_ ?_)
      | (with_reducible refine LeO.bind ?_ (fun _ => ?_))
      | exact impl_ValidOnsets.mono _ _
      | exact impl_shiftedBy.mono _ _ _
      | exact LeO.none _
      | refine LeO.ite ?_ ?_
      | refine LeO.bind ?_ (fun _ => ?_)
set_option maxHeartbeats 8000000 in
set_option maxRecDepth 100000 in
theorem impl_ShiftOnsets.calls (k : Nat) (A0 : Option Addr) (c0 : Nat) (l0 : List Int) (a1 : Int) (r1 : List Int) (r2 : Int) (w : World) (hr0 : Kd.C (Kd.int .i64) w A0 l0.length l0) (hc0 : l0.length ≤ c0) (h : impl_ShiftOnsets.f k l0 a1 = some (r1, r2)) :
    Calls Try.prog 15 #[.slice A0 l0.length c0, .int .i64 a1] w fun e w' => ∃ v0_ : Value, e = .returned (.tuple #[v0_, .int .i64 r2]) ∧ Kd.R (Kd.int .i64) 2 w' w.heap.size (fun _ => True) v0_ r1 ∧ Below w.heap.size w w' := by
  have HR0 := Aside0.mk hr0
  have HC0 := Aside0.mk hc0
  clear hr0 hc0
  have HB := Aside0.mk (Below.refl w.heap.size w)
  have H : ((impl_ValidOnsets.f k l0).bind fun t310 => (if t310 = true then ((impl_within.f a1 (-10000000) 10000000).bind fun t311 => (if t311 = true then ((impl_shiftedBy.f k l0 a1).bind fun t312 => ((impl_ValidOnsets.f k t312).bind fun t315 => (if t315 = true then (some (t312, 0)) else (some (([] : List Int), 6))))) else (some (([] : List Int), 2)))) else (some (([] : List Int), 1)))) = some (r1, r2) := h
  clear h
  replace H := Option.bind_eq_some_iff.mp H
  obtain ⟨t310, A30, H⟩ := H
  replace H : (if t310 = true then ((impl_within.f a1 (-10000000) 10000000).bind fun t311 => (if t311 = true then ((impl_shiftedBy.f k l0 a1).bind fun t312 => ((impl_ValidOnsets.f k t312).bind fun t315 => (if t315 = true then (some (t312, 0)) else (some (([] : List Int), 6))))) else (some (([] : List Int), 2)))) else (some (([] : List Int), 1))) = some (r1, r2) := H
  have A3 := Aside0.mk A30
  clear A30
  by_cases c4 : t310 = true
  · subst c4
    have H1 : ((impl_within.f a1 (-10000000) 10000000).bind fun t311 => (if t311 = true then ((impl_shiftedBy.f k l0 a1).bind fun t312 => ((impl_ValidOnsets.f k t312).bind fun t315 => (if t315 = true then (some (t312, 0)) else (some (([] : List Int), 6))))) else (some (([] : List Int), 2)))) = some (r1, r2) := by rw [if_pos rfl] at H; exact H
    clear H
    have H := H1
    clear H1
    replace H := Option.bind_eq_some_iff.mp H
    obtain ⟨t311, A50, H⟩ := H
    replace H : (if t311 = true then ((impl_shiftedBy.f k l0 a1).bind fun t312 => ((impl_ValidOnsets.f k t312).bind fun t315 => (if t315 = true then (some (t312, 0)) else (some (([] : List Int), 6))))) else (some (([] : List Int), 2))) = some (r1, r2) := H
    have A5 := Aside0.mk A50
    clear A50
    by_cases c6 : t311 = true
    · subst c6
      have H1 : ((impl_shiftedBy.f k l0 a1).bind fun t312 => ((impl_ValidOnsets.f k t312).bind fun t315 => (if t315 = true then (some (t312, 0)) else (some (([] : List Int), 6))))) = some (r1, r2) := by rw [if_pos rfl] at H; exact H
      clear H
      have H := H1
      clear H1
      replace H := Option.bind_eq_some_iff.mp H
      obtain ⟨t312, A70, H⟩ := H
      replace H : ((impl_ValidOnsets.f k t312).bind fun t315 => (if t315 = true then (some (t312, 0)) else (some (([] : List Int), 6)))) = some (r1, r2) := H
      have A7 := Aside0.mk A70
      clear A70
      replace H := Option.bind_eq_some_iff.mp H
      obtain ⟨t315, A80, H⟩ := H
      replace H : (if t315 = true then (some (t312, 0)) else (some (([] : List Int), 6))) = some (r1, r2) := H
      have A8 := Aside0.mk A80
      clear A80
      by_cases c9 : t315 = true
      · subst c9
        have H1 : (some (t312, 0)) = some (r1, r2) := by rw [if_pos rfl] at H; exact H
        clear H
        have H := H1
        clear H1
        simp only [Option.some.injEq, Prod.mk.injEq] at H
        obtain ⟨rfl, rfl⟩ := H
        go_enter Try.func15, Try.ntmps15
        go_wp2_with (first | ((with_reducible refine gate_callee (f := 25) rfl ?_); refine goesL_ (some 9) rfl rfl Try.func25 (by kernel_rfl) rfl #[.slice A0 l0.length c0] rfl (by (try simp only [List.map_toArray, List.map_cons, List.map_nil]); first | done | rfl | (simp only [List.length_drop, List.length_take]; rfl)) ?_; (with_reducible refine (impl_ValidOnsets.calls k _ _ l0 true _ ?side1 ?side2 A3.out).mono ?_); (case side1 => repeat (first | exact HR0.out | (with_reducible refine Kd.C_alloc ?_ _) | (with_reducible refine Kd.C_drewN ?_ _) | (with_reducible refine Kd.C_drew ?_))); (case side2 => exact HC0.out); rintro e w10 ⟨rfl, hb⟩; refine ⟨_, rfl, ?_⟩; have n0_ := Aside0.mk (below_step (by repeat (first | (with_reducible first | exact HB.out | apply below_alloc | apply pw_below_drewN | apply below_drew1) | exact HB.out)) hb); clear HB; have HB := n0_; clear n0_; (try clear hb); (try clear hb2); (try clear hk); (try clear hi)) | ((with_reducible refine gate_callee (f := 26) rfl ?_); refine goesL_ (some 13) rfl rfl Try.func26 (by kernel_rfl) rfl #[.int .i64 a1, .int .i64 (-10000000), .int .i64 10000000] rfl (by (try simp only [List.map_toArray, List.map_cons, List.map_nil]); first | done | rfl | (simp only [List.length_drop, List.length_take]; rfl)) ?_; (with_reducible refine (impl_within.calls a1 (-10000000) 10000000 true _ A5.out).mono ?_); rintro e w' ⟨rfl, ⟨nd, rfl⟩⟩; refine ⟨_, rfl, ?_⟩) | ((with_reducible refine gate_callee (f := 31) rfl ?_); refine goesL_ (some 17) rfl rfl Try.func31 (by kernel_rfl) rfl #[.slice A0 l0.length c0, .int .i64 a1] rfl (by (try simp only [List.map_toArray, List.map_cons, List.map_nil]); first | done | rfl | (simp only [List.length_drop, List.length_take]; rfl)) ?_; (with_reducible refine (impl_shiftedBy.calls k _ _ l0 a1 t312 _ ?side1 ?side2 A7.out).mono ?_); (case side1 => repeat (first | exact (Kd.C_below HR0.out (by repeat (first | (with_reducible first | exact HB.out | apply below_alloc | apply pw_below_drewN | apply below_drew1) | exact HB.out))) | (with_reducible refine Kd.C_alloc ?_ _) | (with_reducible refine Kd.C_drewN ?_ _) | (with_reducible refine Kd.C_drew ?_))); (case side2 => exact HC0.out); rintro e w11 ⟨v313, rfl, ho0, hb⟩; refine ⟨_, rfl, ?_⟩; have n0_ := Aside0.mk (Kd.R_lower ho0 (below_size (by repeat (first | (with_reducible first | exact HB.out | apply below_alloc | apply pw_below_drewN | apply below_drew1) | exact HB.out)))); have n1_ := Aside0.mk (below_step (by repeat (first | (with_reducible first | exact HB.out | apply below_alloc | apply pw_below_drewN | apply below_drew1) | exact HB.out)) hb); clear HB; have HO314 := n0_; have HB := n1_; clear n0_ n1_; (try clear hb); (try clear hb2); (try clear hk); (try clear hi); (try clear ho0); obtain ⟨Ao12, co12, eo12⟩ := Kd.R_slice HO314.out; subst eo12) | ((with_reducible refine gate_callee (f := 25) rfl ?_); refine goesL_ (some 19) rfl rfl Try.func25 (by kernel_rfl) rfl #[.slice Ao12 t312.length co12] rfl (by (try simp only [List.map_toArray, List.map_cons, List.map_nil]); first | done | rfl | (simp only [List.length_drop, List.length_take]; rfl)) ?_; (with_reducible refine (impl_ValidOnsets.calls k _ _ t312 true _ ?side1 ?side2 A8.out).mono ?_); (case side1 => repeat (first | exact (Kd.R_reads' HO314.out).2.2 | (with_reducible refine Kd.C_alloc ?_ _) | (with_reducible refine Kd.C_drewN ?_ _) | (with_reducible refine Kd.C_drew ?_))); (case side2 => exact (Kd.R_reads' HO314.out).2.1); rintro e w13 ⟨rfl, hb⟩; refine ⟨_, rfl, ?_⟩; have n0_ := Aside0.mk (Kd.R_below (by (with_reducible repeat (first | apply Kd.R_alloc | apply Kd.R_drewN | apply Kd.R_drew)); exact HO314.out) hb); have n1_ := Aside0.mk (below_step (by repeat (first | (with_reducible first | exact HB.out | apply below_alloc | apply pw_below_drewN | apply below_drew1) | exact HB.out)) hb); clear HO314; clear HB; have HO314 := n0_; have HB := n1_; clear n0_ n1_; (try clear hb); (try clear hb2); (try clear hk); (try clear hi)))
        go_ret2
        exact ⟨_, by first | rfl | (simp [errW_none, errW_some] <;> rfl) | (simp [*, errW_none, errW_some] <;> rfl), by (with_reducible repeat (first | apply Kd.R_alloc | apply Kd.R_drewN | apply Kd.R_drew)); exact HO314.out, by repeat (first | (with_reducible first | exact HB.out | apply below_alloc | apply pw_below_drewN | apply below_drew1) | exact HB.out)⟩
      · replace c9 := Bool.eq_false_iff.mpr c9
        subst c9
        have H1 : (some (([] : List Int), 6)) = some (r1, r2) := by rw [if_neg (show ¬ (false = true) by decide)] at H; exact H
        clear H
        have H := H1
        clear H1
        simp only [Option.some.injEq, Prod.mk.injEq] at H
        obtain ⟨rfl, rfl⟩ := H
        go_enter Try.func15, Try.ntmps15
        go_wp2_with (first | ((with_reducible refine gate_callee (f := 25) rfl ?_); refine goesL_ (some 9) rfl rfl Try.func25 (by kernel_rfl) rfl #[.slice A0 l0.length c0] rfl (by (try simp only [List.map_toArray, List.map_cons, List.map_nil]); first | done | rfl | (simp only [List.length_drop, List.length_take]; rfl)) ?_; (with_reducible refine (impl_ValidOnsets.calls k _ _ l0 true _ ?side1 ?side2 A3.out).mono ?_); (case side1 => repeat (first | exact HR0.out | (with_reducible refine Kd.C_alloc ?_ _) | (with_reducible refine Kd.C_drewN ?_ _) | (with_reducible refine Kd.C_drew ?_))); (case side2 => exact HC0.out); rintro e w14 ⟨rfl, hb⟩; refine ⟨_, rfl, ?_⟩; have n0_ := Aside0.mk (below_step (by repeat (first | (with_reducible first | exact HB.out | apply below_alloc | apply pw_below_drewN | apply below_drew1) | exact HB.out)) hb); clear HB; have HB := n0_; clear n0_; (try clear hb); (try clear hb2); (try clear hk); (try clear hi)) | ((with_reducible refine gate_callee (f := 26) rfl ?_); refine goesL_ (some 13) rfl rfl Try.func26 (by kernel_rfl) rfl #[.int .i64 a1, .int .i64 (-10000000), .int .i64 10000000] rfl (by (try simp only [List.map_toArray, List.map_cons, List.map_nil]); first | done | rfl | (simp only [List.length_drop, List.length_take]; rfl)) ?_; (with_reducible refine (impl_within.calls a1 (-10000000) 10000000 true _ A5.out).mono ?_); rintro e w' ⟨rfl, ⟨nd, rfl⟩⟩; refine ⟨_, rfl, ?_⟩) | ((with_reducible refine gate_callee (f := 31) rfl ?_); refine goesL_ (some 17) rfl rfl Try.func31 (by kernel_rfl) rfl #[.slice A0 l0.length c0, .int .i64 a1] rfl (by (try simp only [List.map_toArray, List.map_cons, List.map_nil]); first | done | rfl | (simp only [List.length_drop, List.length_take]; rfl)) ?_; (with_reducible refine (impl_shiftedBy.calls k _ _ l0 a1 t312 _ ?side1 ?side2 A7.out).mono ?_); (case side1 => repeat (first | exact (Kd.C_below HR0.out (by repeat (first | (with_reducible first | exact HB.out | apply below_alloc | apply pw_below_drewN | apply below_drew1) | exact HB.out))) | (with_reducible refine Kd.C_alloc ?_ _) | (with_reducible refine Kd.C_drewN ?_ _) | (with_reducible refine Kd.C_drew ?_))); (case side2 => exact HC0.out); rintro e w15 ⟨v313, rfl, ho0, hb⟩; refine ⟨_, rfl, ?_⟩; have n0_ := Aside0.mk (Kd.R_lower ho0 (below_size (by repeat (first | (with_reducible first | exact HB.out | apply below_alloc | apply pw_below_drewN | apply below_drew1) | exact HB.out)))); have n1_ := Aside0.mk (below_step (by repeat (first | (with_reducible first | exact HB.out | apply below_alloc | apply pw_below_drewN | apply below_drew1) | exact HB.out)) hb); clear HB; have HO314 := n0_; have HB := n1_; clear n0_ n1_; (try clear hb); (try clear hb2); (try clear hk); (try clear hi); (try clear ho0); obtain ⟨Ao16, co16, eo16⟩ := Kd.R_slice HO314.out; subst eo16) | ((with_reducible refine gate_callee (f := 25) rfl ?_); refine goesL_ (some 19) rfl rfl Try.func25 (by kernel_rfl) rfl #[.slice Ao16 t312.length co16] rfl (by (try simp only [List.map_toArray, List.map_cons, List.map_nil]); first | done | rfl | (simp only [List.length_drop, List.length_take]; rfl)) ?_; (with_reducible refine (impl_ValidOnsets.calls k _ _ t312 false _ ?side1 ?side2 A8.out).mono ?_); (case side1 => repeat (first | exact (Kd.R_reads' HO314.out).2.2 | (with_reducible refine Kd.C_alloc ?_ _) | (with_reducible refine Kd.C_drewN ?_ _) | (with_reducible refine Kd.C_drew ?_))); (case side2 => exact (Kd.R_reads' HO314.out).2.1); rintro e w17 ⟨rfl, hb⟩; refine ⟨_, rfl, ?_⟩; have n0_ := Aside0.mk (Kd.R_below (by (with_reducible repeat (first | apply Kd.R_alloc | apply Kd.R_drewN | apply Kd.R_drew)); exact HO314.out) hb); have n1_ := Aside0.mk (below_step (by repeat (first | (with_reducible first | exact HB.out | apply below_alloc | apply pw_below_drewN | apply below_drew1) | exact HB.out)) hb); clear HO314; clear HB; have HO314 := n0_; have HB := n1_; clear n0_ n1_; (try clear hb); (try clear hb2); (try clear hk); (try clear hi)))
        go_ret2
        exact ⟨_, by first | rfl | (simp [errW_none, errW_some] <;> rfl) | (simp [*, errW_none, errW_some] <;> rfl), by first | exact Kd.R_nil _ _ _ _ _ | exact Kd.N_nil _ _ _ _ _ | exact Kd.V_nil _ _ _ _ _ | exact Kd.Q_nil _ _ _ _ _ | exact Kd.S_nil _ _ _ _ _, by repeat (first | (with_reducible first | exact HB.out | apply below_alloc | apply pw_below_drewN | apply below_drew1) | exact HB.out)⟩
    · replace c6 := Bool.eq_false_iff.mpr c6
      subst c6
      have H1 : (some (([] : List Int), 2)) = some (r1, r2) := by rw [if_neg (show ¬ (false = true) by decide)] at H; exact H
      clear H
      have H := H1
      clear H1
      simp only [Option.some.injEq, Prod.mk.injEq] at H
      obtain ⟨rfl, rfl⟩ := H
      go_enter Try.func15, Try.ntmps15
      go_wp2_with (first | ((with_reducible refine gate_callee (f := 25) rfl ?_); refine goesL_ (some 9) rfl rfl Try.func25 (by kernel_rfl) rfl #[.slice A0 l0.length c0] rfl (by (try simp only [List.map_toArray, List.map_cons, List.map_nil]); first | done | rfl | (simp only [List.length_drop, List.length_take]; rfl)) ?_; (with_reducible refine (impl_ValidOnsets.calls k _ _ l0 true _ ?side1 ?side2 A3.out).mono ?_); (case side1 => repeat (first | exact HR0.out | (with_reducible refine Kd.C_alloc ?_ _) | (with_reducible refine Kd.C_drewN ?_ _) | (with_reducible refine Kd.C_drew ?_))); (case side2 => exact HC0.out); rintro e w18 ⟨rfl, hb⟩; refine ⟨_, rfl, ?_⟩; have n0_ := Aside0.mk (below_step (by repeat (first | (with_reducible first | exact HB.out | apply below_alloc | apply pw_below_drewN | apply below_drew1) | exact HB.out)) hb); clear HB; have HB := n0_; clear n0_; (try clear hb); (try clear hb2); (try clear hk); (try clear hi)) | ((with_reducible refine gate_callee (f := 26) rfl ?_); refine goesL_ (some 13) rfl rfl Try.func26 (by kernel_rfl) rfl #[.int .i64 a1, .int .i64 (-10000000), .int .i64 10000000] rfl (by (try simp only [List.map_toArray, List.map_cons, List.map_nil]); first | done | rfl | (simp only [List.length_drop, List.length_take]; rfl)) ?_; (with_reducible refine (impl_within.calls a1 (-10000000) 10000000 false _ A5.out).mono ?_); rintro e w' ⟨rfl, ⟨nd, rfl⟩⟩; refine ⟨_, rfl, ?_⟩))
      go_ret2
      exact ⟨_, by first | rfl | (simp [errW_none, errW_some] <;> rfl) | (simp [*, errW_none, errW_some] <;> rfl), by first | exact Kd.R_nil _ _ _ _ _ | exact Kd.N_nil _ _ _ _ _ | exact Kd.V_nil _ _ _ _ _ | exact Kd.Q_nil _ _ _ _ _ | exact Kd.S_nil _ _ _ _ _, by repeat (first | (with_reducible first | exact HB.out | apply below_alloc | apply pw_below_drewN | apply below_drew1) | exact HB.out)⟩
  · replace c4 := Bool.eq_false_iff.mpr c4
    subst c4
    have H1 : (some (([] : List Int), 1)) = some (r1, r2) := by rw [if_neg (show ¬ (false = true) by decide)] at H; exact H
    clear H
    have H := H1
    clear H1
    simp only [Option.some.injEq, Prod.mk.injEq] at H
    obtain ⟨rfl, rfl⟩ := H
    go_enter Try.func15, Try.ntmps15
    go_wp2_with (first | ((with_reducible refine gate_callee (f := 25) rfl ?_); refine goesL_ (some 9) rfl rfl Try.func25 (by kernel_rfl) rfl #[.slice A0 l0.length c0] rfl (by (try simp only [List.map_toArray, List.map_cons, List.map_nil]); first | done | rfl | (simp only [List.length_drop, List.length_take]; rfl)) ?_; (with_reducible refine (impl_ValidOnsets.calls k _ _ l0 false _ ?side1 ?side2 A3.out).mono ?_); (case side1 => repeat (first | exact HR0.out | (with_reducible refine Kd.C_alloc ?_ _) | (with_reducible refine Kd.C_drewN ?_ _) | (with_reducible refine Kd.C_drew ?_))); (case side2 => exact HC0.out); rintro e w19 ⟨rfl, hb⟩; refine ⟨_, rfl, ?_⟩; have n0_ := Aside0.mk (below_step (by repeat (first | (with_reducible first | exact HB.out | apply below_alloc | apply pw_below_drewN | apply below_drew1) | exact HB.out)) hb); clear HB; have HB := n0_; clear n0_; (try clear hb); (try clear hb2); (try clear hk); (try clear hi)))
    go_ret2
    exact ⟨_, by first | rfl | (simp [errW_none, errW_some] <;> rfl) | (simp [*, errW_none, errW_some] <;> rfl), by first | exact Kd.R_nil _ _ _ _ _ | exact Kd.N_nil _ _ _ _ _ | exact Kd.V_nil _ _ _ _ _ | exact Kd.Q_nil _ _ _ _ _ | exact Kd.S_nil _ _ _ _ _, by repeat (first | (with_reducible first | exact HB.out | apply below_alloc | apply pw_below_drewN | apply below_drew1) | exact HB.out)⟩

end Go.Proofs.Ytoohfhgmflgmcaa.PFnAlignment
