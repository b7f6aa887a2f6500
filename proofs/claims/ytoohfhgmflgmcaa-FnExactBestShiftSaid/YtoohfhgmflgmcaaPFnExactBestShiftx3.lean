-- written by xprint.py, a program of this repo over the kit's print; not trusted: Lean checks it
import Derived.Test.YtoohfhgmflgmcaaPFnExactBestShiftx0
import Derived.Test.YtoohfhgmflgmcaaPFnExactBestShiftx1
import Derived.Test.YtoohfhgmflgmcaaPFnExactBestShiftx2
namespace Go.Proofs.Ytoohfhgmflgmcaa.PFnExactBestShift
open Go.RowKit Go.Proofs.YtoohfhgmflgmcaaW.PrintWords Go.Proofs.YtoohfhgmflgmcaaW.PrintLast Go.Proofs.YtoohfhgmflgmcaaW.PrintMore
attribute [local go_sem] max2_int min2_int max_two min_two max_three min_three max_four min_four   -- for this text's walks alone
set_option linter.unusedVariables false
set_option linter.unusedSimpArgs false

/-! ### slices_Clone_int64_int64: function 47, by hand -/
theorem clone_eqi (A : Option Addr) (d n c : Nat) (w : World) : (Op.equalIn (d + 1) 24 (.slice A n c) (.slice none 0 0)).run Try.prog w = .ok A.isNone w := by
  cases A <;> simp [Op.equalIn, run_underlying Try.underlying24]
theorem clone_nil (n c : Nat) (w : World) : Sem.run Try.prog (binOp .eql 24 (.slice none n c) (.slice none 0 0)) w = .ok (.bool true) w := by
  simp only [binOp]; simp [Op.equal, Op.maxDepth, clone_eqi none 9999 n c w]
theorem clone_some (a : Addr) (n c : Nat) (w : World) : Sem.run Try.prog (binOp .eql 24 (.slice (some a) n c) (.slice none 0 0)) w = .ok (.bool false) w := by
  simp only [binOp]; simp [Op.equal, Op.maxDepth, clone_eqi (some a) 9999 n c w]
attribute [local go_sem] clone_nil clone_some
def slices_Clone_int64_int64.f (l0 : List Int) : Option (List Int) := if l0.length < 17592186044416 then some l0 else none
set_option maxHeartbeats 8000000 in
set_option maxRecDepth 100000 in
theorem slices_Clone_int64_int64.calls (A0 : Option Addr) (c0 : Nat) (l0 : List Int) (r : List Int) (w : World) (hr0 : Kd.C (Kd.int .i64) w A0 l0.length l0) (hc0 : l0.length ≤ c0) (h : slices_Clone_int64_int64.f l0 = some r) :
    Calls Try.prog 47 #[.slice A0 l0.length c0] w fun e w' => ∃ v0_ : Value, e = .returned (v0_) ∧ Kd.R (Kd.int .i64) 2 w' w.heap.size (fun _ => True) v0_ r ∧ Below w.heap.size w w' := by
  have HR0 := Aside0.mk hr0
  have HC0 := Aside0.mk hc0
  clear hc0
  have HB := Aside0.mk (Below.refl w.heap.size w)
  have H : (if l0.length < 17592186044416 then some l0 else none) = some r := h
  clear h
  have hu := Try.underlying24
  by_cases c2 : l0.length < 17592186044416
  · rw [if_pos c2] at H
    obtain rfl := Option.some.inj H
    cases A0 with
    | none =>
      obtain rfl : l0 = [] := by
        cases l0 with
        | nil => rfl
        | cons x l => obtain ⟨_, _, h3⟩ := hr0; obtain ⟨_, h4, _⟩ := h3 (by simp); cases h4
      clear hr0
      go_enter Try.func47, Try.ntmps47
      go_wp2
      go_ret
      exact ⟨_, rfl, Kd.R_nil _ _ _ _ _, by repeat (first | (with_reducible first | exact HB.out | apply below_alloc | apply pw_below_drewN | apply below_drew1) | exact HB.out)⟩
    | some ad =>
      clear hr0
      obtain ⟨y208, hy208⟩ : ∃ y_ : List Int, y_ = (([] : List Int)) := ⟨_, rfl⟩
      have Ny208 := Aside0.mk hy208
      clear hy208
      obtain ⟨y211, hy211⟩ : ∃ y_ : List Int, y_ = (y208 ++ l0) := ⟨_, rfl⟩
      have Ny211 := Aside0.mk hy211
      clear hy211
      have LMc2 : Aside0 (y208.length + l0.length < 17592186044416) := ⟨by rw [Ny208.out]; simpa using c2⟩
      have E : y211 = l0 := by rw [Ny211.out, Ny208.out]; rfl
      clear c2
      go_enter Try.func47, Try.ntmps47
      go_wp2_with (first | ((with_reducible refine gate_dst (N := 5) rfl ?_); refine Kd.R_lit (Kd.int .i64) _ 2 ?hg (N := 5) ?hd (xs := ([] : List Int)) (inner := []) (ok := fun _ => True) (okp := fun _ => True) ?hr ?hp (fun _ hk => hk) trivial (Below.refl _ _) (Nat.le_refl _) (by simp) ?_; (case hd => rfl); (case hg => rfl); (case hr => first | (go_simp; done) | (go_simp; rfl)); (case hp => exact (Reps.none _ _)); intro v209 w3 ho4 hb hg_ hnew_; clear hg_ hnew_; (first | rw [← Ny208.out] at ho4 | (simp only [Int.reduceToNat] at ho4; rw [← Ny208.out] at ho4)); have n0_ := Aside0.mk (Kd.R_lower ho4 (below_size (by repeat (first | (with_reducible first | exact HB.out | apply below_alloc | apply pw_below_drewN | apply below_drew1) | exact HB.out)))); have n1_ := Aside0.mk (below_step (by repeat (first | (with_reducible first | exact HB.out | apply below_alloc | apply pw_below_drewN | apply below_drew1) | exact HB.out)) hb); clear HB; have HO210 := n0_; have HB := n1_; clear n0_ n1_; clear hb ho4) | ((with_reducible refine gate_builtin (b := .append) (xs := #[.tmp 5, .tmp 6]) rfl ?_); at_builtin; refine Kd.R_append_rows (Kd.int .i64) (w0 := w) w.heap.size rfl (.tmp 5) (.tmp 6) 24 2 (.int .i64 0) 8 rfl Try.underlying24 info2 rfl (by decide) (by omega) v209 y208 l0 _ _ _ (fun _ => True) (fun _ => False) rfl rfl ?aO ?aR (fun _ _ h => h) (fun _ h => h.elim) ?aF ?aB ?aS ?aL ?_; (case aR => repeat (first | exact (Kd.C_below HR0.out HB.out) | (with_reducible refine Kd.C_alloc ?_ _) | (with_reducible refine Kd.C_drewN ?_ _) | (with_reducible refine Kd.C_drew ?_))); (case aB => exact (by repeat (first | (with_reducible first | exact HB.out | apply below_alloc | apply pw_below_drewN | apply below_drew1) | exact HB.out))); (case aF => exact (fun _ _ => trivial)); (case aO => exact (by (with_reducible repeat (first | apply Kd.R_alloc | apply Kd.R_drewN | apply Kd.R_drew)); exact HO210.out)); (case aS => exact (below_size (by repeat (first | (with_reducible first | exact HB.out | apply below_alloc | apply pw_below_drewN | apply below_drew1) | exact HB.out)))); (case aL => have := LMc2.out; omega); intro v212 w5 ho hb hg hat; rw [← Ny211.out] at ho; have n0_ := Aside0.mk (hb); have n1_ := Aside0.mk (ho); clear HB; clear HO210; have HB := n0_; have HO213 := n1_; clear n0_ n1_; clear ho hb hg hat))
      go_ret
      exact ⟨_, rfl, by (with_reducible repeat (first | apply Kd.R_alloc | apply Kd.R_drewN | apply Kd.R_drew)); exact E ▸ HO213.out, by repeat (first | (with_reducible first | exact HB.out | apply below_alloc | apply pw_below_drewN | apply below_drew1) | exact HB.out)⟩
  · rw [if_neg c2] at H
    exact absurd H (by simp)

/-! ### impl_shiftedBy: function 31 -/
def impl_shiftedBy.l0 : Nat → Int → List Int → Int → Int → Option (List Int)
  | 0, _, _, _, _ => none
  | k + 1, x1, x5, x10, x11 => if x11 < x10 then (if 0 ≤ x11 then (if x11 < (x5.length : Int) then (impl_shiftedBy.l0 k x1 (x5.set (x11 : Int).toNat (wrap64 ((rd x5 x11) + x1))) x10 (wrap64 (x11 + 1))) else (none)) else (none)) else (some x5)
def impl_shiftedBy.f (k : Nat) (l0 : List Int) (a1 : Int) : Option (List Int) := (slices_Clone_int64_int64.f l0).bind fun t105 => (impl_shiftedBy.l0 k a1 t105 (t105.length : Int) 0)
theorem impl_shiftedBy.mono_l : ∀ k, (∀ y0 y1 y2 y3, LeO (impl_shiftedBy.l0 k y0 y1 y2 y3) (impl_shiftedBy.l0 (k + 1) y0 y1 y2 y3))
  | 0 => fun _ _ _ _ r h => by simp [impl_shiftedBy.l0] at h
  | k + 1 => by
    have ih0 := impl_shiftedBy.mono_l k
    · intro y0 y1 y2 y3
      unfold impl_shiftedBy.l0
      repeat' first
      | (with_reducible exact ih0 _ _ _ _)
      | (with_reducible exact LeO.refl _)
      | (with_reducible exact LeO.none _)
      | (with_reducible refine LeO.ite ?_ ?_)
      | (with_reducible refine LeO.bind ?_ (fun _ => ?_))
      | exact ih0 _ _ _ _
      | exact LeO.none _
      | refine LeO.ite ?_ ?_
      | refine LeO.bind ?_ (fun _ => ?_)
theorem impl_shiftedBy.mono : ∀ a0 a1 k, LeO (impl_shiftedBy.f k a0 a1) (impl_shiftedBy.f (k + 1) a0 a1) := by
  intro a0 a1 k
  have ih0 := impl_shiftedBy.mono_l k
  unfold impl_shiftedBy.f
  repeat' first
      | (with_reducible exact ih0 _ _ _ _)
      | (with_reducible exact LeO.refl _)
      | (with_reducible exact LeO.none _)
      | (with_reducible refine LeO.ite ?_ ?_)
      | (with_reducible refine LeO.bind ?_ (fun _ => ?_))
      | exact ih0 _ _ _ _
      | exact LeO.none _
      | refine LeO.ite ?_ ?_
      | refine LeO.bind ?_ (fun _ => ?_)
set_option maxHeartbeats 8000000 in
set_option maxRecDepth 100000 in
theorem impl_shiftedBy.calls (k : Nat) (A0 : Option Addr) (c0 : Nat) (l0 : List Int) (a1 : Int) (r : List Int) (w : World) (hr0 : Kd.C (Kd.int .i64) w A0 l0.length l0) (hc0 : l0.length ≤ c0) (h : impl_shiftedBy.f k l0 a1 = some r) :
    Calls Try.prog 31 #[.slice A0 l0.length c0, .int .i64 a1] w fun e w' => ∃ v0_ : Value, e = .returned (v0_) ∧ Kd.R (Kd.int .i64) 2 w' w.heap.size (fun _ => True) v0_ r ∧ Below w.heap.size w w' := by
  have HR0 := Aside0.mk hr0
  have HC0 := Aside0.mk hc0
  clear hr0 hc0
  have HB := Aside0.mk (Below.refl w.heap.size w)
  have H : ((slices_Clone_int64_int64.f l0).bind fun t105 => (impl_shiftedBy.l0 k a1 t105 (t105.length : Int) 0)) = some r := h
  clear h
  replace H := Option.bind_eq_some_iff.mp H
  obtain ⟨t105, A30, H⟩ := H
  replace H : (impl_shiftedBy.l0 k a1 t105 (t105.length : Int) 0) = some r := H
  have A3 := Aside0.mk A30
  clear A30
  have H' := Aside0.mk H
  clear H
  go_enter Try.func31, Try.ntmps31
  go_wp2_with (first | ((with_reducible refine gate_callee (f := 47) rfl ?_); refine goesL_ (some 8) rfl rfl Try.func47 (by kernel_rfl) rfl #[.slice A0 l0.length c0] rfl (by (try simp only [List.map_toArray, List.map_cons, List.map_nil]); first | done | rfl | (simp only [List.length_drop, List.length_take]; rfl)) ?_; (with_reducible refine (slices_Clone_int64_int64.calls _ _ l0 t105 _ ?side1 ?side2 A3.out).mono ?_); (case side1 => repeat (first | exact HR0.out | (with_reducible refine Kd.C_alloc ?_ _) | (with_reducible refine Kd.C_drewN ?_ _) | (with_reducible refine Kd.C_drew ?_))); (case side2 => exact HC0.out); rintro e w4 ⟨v106, rfl, ho0, hb⟩; refine ⟨_, rfl, ?_⟩; have n0_ := Aside0.mk (Kd.R_lower ho0 (below_size (by repeat (first | (with_reducible first | exact HB.out | apply below_alloc | apply pw_below_drewN | apply below_drew1) | exact HB.out)))); have n1_ := Aside0.mk (below_step (by repeat (first | (with_reducible first | exact HB.out | apply below_alloc | apply pw_below_drewN | apply below_drew1) | exact HB.out)) hb); clear HB; have HO107 := n0_; have HB := n1_; clear n0_ n1_; (try clear hb); (try clear hb2); (try clear hk); (try clear hi); (try clear ho0); obtain ⟨Ao5, co5, eo5⟩ := Kd.R_slice HO107.out; subst eo5))
  go_loopg [11] k (fun kq v11 w' => ∃ (x5_1 : List Int) (x11_1 : Int), v11 = .int .i64 x11_1 ∧ Aside0 (impl_shiftedBy.l0 kq a1 x5_1 (t105.length : Int) x11_1 = some r) ∧ Aside0 (kq ≤ k) ∧ Aside0 (Kd.R (Kd.int .i64) 2 w' w.heap.size (fun _ => True) (.slice Ao5 t105.length co5) x5_1) ∧ Aside0 (Below w.heap.size w w'))
  case atStart => exact ⟨(t105), (0), (by first | rfl | (simp; done) | (simp [*]; done)), H', ⟨Nat.le_refl _⟩, ⟨by (with_reducible repeat (first | apply Kd.R_alloc | apply Kd.R_drewN | apply Kd.R_drew)); exact HO107.out⟩, ⟨by repeat (first | (with_reducible first | exact HB.out | apply below_alloc | apply pw_below_drewN | apply below_drew1) | exact HB.out)⟩⟩
  case round =>
    clear H'
    try clear p2
    try clear c3
    try clear c4
    obtain ⟨x5_1, x11_1, rfl, HA, HK1, HO_5, HB⟩ := hrel
    have hl5_1 := (Kd.R_reads' HO_5.out).1
    rw [hl5_1] at HO_5
    (try simp only [hl5_1])
    cases gk with
    | zero => exact absurd HA.out (by simp [impl_shiftedBy.l0])
    | succ k1 =>
      have H := HA.out
      clear HA
      simp only [impl_shiftedBy.l0] at H
      by_cases c6 : x11_1 < (t105.length : Int)
      · rw [if_pos c6] at H
        have c6b0 : decide (x11_1 < (t105.length : Int)) = true := decide_eq_true c6
        have c6b0h := c6b0
        (try simp only [hl5_1] at c6b0h)
        clear c6
        by_cases c7 : 0 ≤ x11_1
        · rw [if_pos c7] at H
          have c7b0 : decide (0 ≤ x11_1) = true := decide_eq_true c7
          clear c7
          by_cases c8 : x11_1 < (x5_1.length : Int)
          · rw [if_pos c8] at H
            have c8b0 : decide (x11_1 < (x5_1.length : Int)) = true := decide_eq_true c8
            have c8b0h := c8b0
            (try simp only [hl5_1] at c8b0h)
            clear c8
            obtain ⟨y109, hy109⟩ : ∃ y_ : List Int, y_ = (x5_1.set (x11_1 : Int).toNat (wrap64 ((rd x5_1 x11_1) + a1))) := ⟨_, rfl⟩
            replace H : (impl_shiftedBy.l0 k1 a1 y109 (t105.length : Int) (wrap64 (x11_1 + 1))) = some r := by first | (rw [hy109]; with_reducible exact H) | (have H2_ := (Option.bind_some _ _).symm.trans H; rw [hy109]; with_reducible exact H2_) | (have H2_ := (Option.bind_some _ _).symm.trans H; with_reducible exact H2_) | with_reducible exact H | (rw [hy109]; exact H) | exact H
            have Ny109 := Aside0.mk hy109
            clear hy109
            have H' := Aside0.mk H
            clear H
            have p108 : 0 ≤ (x11_1 : Int) := of_decide_eq_true (by first | (with_reducible assumption) | assumption)
            have q108 : x11_1 < (x5_1.length : Int) := of_decide_eq_true (by first | (with_reducible assumption) | assumption)
            obtain ⟨ad108, e108, hx108_0⟩ := Kd.at_int (Kd.R_reads' HO_5.out).2.2 x11_1 p108 q108
            cases e108
            replace p108 := eq_true p108
            replace q108 := eq_true q108
            have p9 : 0 ≤ (x11_1 : Int) := of_decide_eq_true (by first | (with_reducible assumption) | assumption)
            have q9 : (x11_1 : Int) < ((x5_1.length : Int) : Int) := of_decide_eq_true (by first | (with_reducible assumption) | assumption)
            obtain ⟨go9, co9, eo9, gb9, gl9, cl9, HG9⟩ := Kd.R_form HO_5.out (by omega)
            (first | cases eo9 | (injection eo9 with ea_ en_ ec_; (first | subst ea_ | (injection ea_ with ea_; subst ea_)); subst ec_; clear en_))
            have GB9 := Aside0.mk gb9
            have GG9 := Aside0.mk HG9
            clear gb9 gl9 HG9
            (first | simp only [add_plain] at hx108_0 | skip)
            obtain ⟨hx9_0, hf9_0⟩ := Kd.R_celln 0 HO_5.out (x11_1 : Int) p9 q9
            replace p9 := eq_true p9
            replace q9 := eq_true q9
            have HP10 := Kd.R_putg HO_5.out (x11_1 : Int) (wrap64 ((rd x5_1 x11_1) + a1))
            go_wp2_with (first | ((with_reducible refine gate_store (t := 2) (p := 20) rfl ?_); refine store_event (t := 2) (p := 20) (v := ?vo_w11) (w1 := (wr.setCell ⟨go9, (x11_1 : Int).toNat, none⟩ (.int .i64 (wrap64 ((rd x5_1 x11_1) + a1))))) ?hg ?ho ?hn ?hr ?_; (case ho => rfl); (case hg => rfl); (case hn => rfl); (case hr => first | (go_simp; done) | (go_simp; rfl)); intro w11 hw; have hg : wr.grownBy w11 (some go9) := (by rw [hw]; exact HP10.2); have hp_ : Kd.R (Kd.int .i64) 2 w11 w.heap.size (fun _ => True) (.slice (some ⟨go9, 0, none⟩) x5_1.length co5) y109 := (by rw [hw, Ny109.out]; exact HP10.1); clear HP10; have n0_ := Aside0.mk (hp_); have n1_ := Aside0.mk ((by rw [hw]; exact below_set (HB.out) GB9.out : Below w.heap.size w w11)); clear HO_5; clear HB; have HO_5 := n0_; have HB := n1_; clear n0_ n1_; clear hg hw hp_))
            (try simp only [← hl5_1])
            go_roundg k1
            case measure => have := HK1.out; omega
            case rel => exact ⟨(y109), (wrap64 (x11_1 + 1)), (by first | rfl | (simp; done) | (simp [*]; done)), H', ⟨by have := HK1.out; omega⟩, ⟨by (try simp only [hl5_1]); (with_reducible repeat (first | apply Kd.R_alloc | apply Kd.R_drewN | apply Kd.R_drew)); exact HO_5.out⟩, ⟨by repeat (first | (with_reducible first | exact HB.out | apply below_alloc | apply pw_below_drewN | apply below_drew1) | exact HB.out)⟩⟩
          · rw [if_neg c8] at H
            exact absurd H (by simp)
        · rw [if_neg c7] at H
          exact absurd H (by simp)
      · rw [if_neg c6] at H
        have c6b0 : decide (x11_1 < (t105.length : Int)) = false := decide_eq_false c6
        have c6b0h := c6b0
        (try simp only [hl5_1] at c6b0h)
        clear c6
        obtain rfl := Option.some.inj H
        go_wp2
        go_ret
        exact ⟨_, by first | rfl | (simp [errW_none, errW_some] <;> rfl) | (simp [*, errW_none, errW_some] <;> rfl), by (with_reducible repeat (first | apply Kd.R_alloc | apply Kd.R_drewN | apply Kd.R_drew)); exact HO_5.out, by repeat (first | (with_reducible first | exact HB.out | apply below_alloc | apply pw_below_drewN | apply below_drew1) | exact HB.out)⟩

/-! ### impl_BestShift: function 14, by hand -/
def bs_step (k : Nat) (l0 l1 : List Int) (a2 y : Int) (s : Int × Int) : Option (Int × Int) := (impl_shiftedBy.f k l1 y).bind fun out => (impl_ValidOnsets.f k out).bind fun b => if b = true then (impl_align.f l0 out a2).bind fun c => some (if c.2 < s.2 then (y, c.2) else s) else some s
def bs_n (k : Nat) (l0 l1 : List Int) (a2 a4 : Int) : Nat → Int → Int × Int → Option (Int × Int)
  | 0, _, s => some s
  | d + 1, n, s => (bs_step k l0 l1 a2 (n * a4) s).bind fun s1 => (bs_step k l0 l1 a2 (-n * a4) s1).bind fun s2 => bs_n k l0 l1 a2 a4 d (n + 1) s2
def impl_BestShift.f (k : Nat) (l0 l1 : List Int) (a2 a3 a4 : Int) : Option (Int × Int × Int) := (impl_ValidOnsets.f k l0).bind fun b0 => if b0 = true then (impl_ValidOnsets.f k l1).bind fun b1 => if b1 = true then (if (0 ≤ a2 ∧ a2 ≤ 1000000) then (if (0 ≤ a3 ∧ a3 ≤ 20) then (if (1 ≤ a4 ∧ a4 ≤ 10000000) then (impl_align.f l0 l1 a2).bind fun c => (bs_n k l0 l1 a2 a4 a3.toNat 1 (0, c.2)).bind fun s => some (s.1, s.2, 0) else some (0, 0, 2)) else some (0, 0, 2)) else some (0, 0, 2)) else some (0, 0, 1) else some (0, 0, 1)
theorem bs_step.mono (l0 l1 : List Int) (a2 y : Int) (s : Int × Int) (k : Nat) : LeO (bs_step k l0 l1 a2 y s) (bs_step (k + 1) l0 l1 a2 y s) := by
  unfold bs_step
  exact LeO.bind (impl_shiftedBy.mono _ _ _) (fun _ => LeO.bind (impl_ValidOnsets.mono _ _) (fun _ => LeO.refl _))
theorem bs_n.mono (l0 l1 : List Int) (a2 a4 : Int) (k : Nat) : ∀ d n s, LeO (bs_n k l0 l1 a2 a4 d n s) (bs_n (k + 1) l0 l1 a2 a4 d n s) := by
  intro d
  induction d with
  | zero => intro n s; exact LeO.refl _
  | succ d ih =>
    intro n s
    exact LeO.bind (bs_step.mono _ _ _ _ _ _) (fun _ => LeO.bind (bs_step.mono _ _ _ _ _ _) (fun _ => ih _ _))
theorem impl_BestShift.mono : ∀ a0 a1 a2 a3 a4 k, LeO (impl_BestShift.f k a0 a1 a2 a3 a4) (impl_BestShift.f (k + 1) a0 a1 a2 a3 a4) := by
  intro a0 a1 a2 a3 a4 k
  unfold impl_BestShift.f
  refine LeO.bind (impl_ValidOnsets.mono _ _) (fun _ => LeO.ite ?_ (LeO.refl _))
  refine LeO.bind (impl_ValidOnsets.mono _ _) (fun _ => LeO.ite ?_ (LeO.refl _))
  refine LeO.ite (LeO.ite (LeO.ite ?_ (LeO.refl _)) (LeO.refl _)) (LeO.refl _)
  exact LeO.bind (LeO.refl _) (fun _ => LeO.bind (bs_n.mono _ _ _ _ _ _ _ _) (fun _ => LeO.refl _))
theorem bs_within (a b c : Int) : impl_within.f a b c = some (decide (b ≤ a ∧ a ≤ c)) := by
  unfold impl_within.f
  split
  · rename_i h
    congr 1
    rw [decide_eq_decide]
    omega
  · rename_i h
    rw [decide_eq_false (by omega)]
theorem bs_ix0 (a b : Int) (W : World) : (Instr.index 57 (.agg #[.int .i64 a, .int .i64 b]) (.int .i64 0)).run Try.prog W = .ok (.int .i64 a) W := by
  obtain ⟨i2, hi2, hz2, hs2, hb2⟩ := info_parts info2
  have hu := run_underlying (P := Try.prog) (show Try.prog.underlying 57 = some (.array 2 2) by kernel_rfl) W
  simp [Instr.index, asIntOf, hu, part, sizeOf, typeInfo, hi2, hs2]
theorem bs_ix1 (a b : Int) (W : World) : (Instr.index 57 (.agg #[.int .i64 a, .int .i64 b]) (.int .i64 1)).run Try.prog W = .ok (.int .i64 b) W := by
  obtain ⟨i2, hi2, hz2, hs2, hb2⟩ := info_parts info2
  have hu := run_underlying (P := Try.prog) (show Try.prog.underlying 57 = some (.array 2 2) by kernel_rfl) W
  simp [Instr.index, asIntOf, hu, part, sizeOf, typeInfo, hi2, hs2]
def bs_rest (k : Nat) (l0 l1 : List Int) (a2 a4 : Int) (d : Nat) (n : Int) : Nat → Int × Int → Option (Int × Int)
  | 0, s => (bs_step k l0 l1 a2 (n * a4) s).bind fun s1 => (bs_step k l0 l1 a2 (-n * a4) s1).bind fun s2 => bs_n k l0 l1 a2 a4 d (n + 1) s2
  | 1, s => (bs_step k l0 l1 a2 (-n * a4) s).bind fun s2 => bs_n k l0 l1 a2 a4 d (n + 1) s2
  | _, s => bs_n k l0 l1 a2 a4 d (n + 1) s
set_option maxHeartbeats 8000000 in
set_option maxRecDepth 100000 in
theorem impl_BestShift.calls (k : Nat) (A0 : Option Addr) (c0 : Nat) (l0 : List Int) (A1 : Option Addr) (c1 : Nat) (l1 : List Int) (a2 a3 a4 : Int) (r1 r2 r3 : Int) (w : World) (hr0 : Kd.C (Kd.int .i64) w A0 l0.length l0) (hc0 : l0.length ≤ c0) (hr1 : Kd.C (Kd.int .i64) w A1 l1.length l1) (hc1 : l1.length ≤ c1) (h : impl_BestShift.f k l0 l1 a2 a3 a4 = some (r1, r2, r3)) :
    Calls Try.prog 14 #[.slice A0 l0.length c0, .slice A1 l1.length c1, .int .i64 a2, .int .i64 a3, .int .i64 a4] w fun e w' => e = .returned (.tuple #[.int .i64 r1, .int .i64 r2, .int .i64 r3]) ∧ Below w.heap.size w w' := by
  have HR0 := Aside0.mk hr0
  have HC0 := Aside0.mk hc0
  have HR1 := Aside0.mk hr1
  have HC1 := Aside0.mk hc1
  clear hr0 hr1 hc0 hc1
  unfold impl_BestShift.f at h
  obtain ⟨b0, hb0, H⟩ := Option.bind_eq_some_iff.mp h
  clear h
  have V0 := Aside0.mk hb0
  clear hb0
  cases b0 with
  | false =>
    rw [if_neg (by simp)] at H
    simp only [Option.some.injEq, Prod.mk.injEq] at H
    obtain ⟨rfl, rfl, rfl⟩ := H
    go_enter Try.func14, Try.ntmps14
    go_wp2_with (fail)
    refine (impl_ValidOnsets.calls k A0 c0 l0 false _ (Kd.C_below HR0.out (Below.refl w.heap.size w)) HC0.out V0.out).mono ?_
    rintro e w2 ⟨rfl, hb_⟩
    have HB2 : Aside0 (Below w.heap.size w w2) := ⟨below_then (Below.refl w.heap.size w) ((Below.refl w.heap.size w)).size hb_⟩
    clear hb_
    dsimp only
    go_wp2_with (fail)
    go_ret3
    exact ⟨rfl, HB2.out⟩
  | true =>
    rw [if_pos rfl] at H
    obtain ⟨b1, hb1, H⟩ := Option.bind_eq_some_iff.mp H
    have V1 := Aside0.mk hb1
    clear hb1
    cases b1 with
    | false =>
      rw [if_neg (by simp)] at H
      simp only [Option.some.injEq, Prod.mk.injEq] at H
      obtain ⟨rfl, rfl, rfl⟩ := H
      go_enter Try.func14, Try.ntmps14
      go_wp2_with (fail)
      refine (impl_ValidOnsets.calls k A0 c0 l0 true _ (Kd.C_below HR0.out (Below.refl w.heap.size w)) HC0.out V0.out).mono ?_
      rintro e w2 ⟨rfl, hb_⟩
      have HB2 : Aside0 (Below w.heap.size w w2) := ⟨below_then (Below.refl w.heap.size w) ((Below.refl w.heap.size w)).size hb_⟩
      clear hb_
      dsimp only
      go_wp2_with (fail)
      refine (impl_ValidOnsets.calls k A1 c1 l1 false _ (Kd.C_below HR1.out HB2.out) HC1.out V1.out).mono ?_
      rintro e w3 ⟨rfl, hb_⟩
      have HB3 : Aside0 (Below w.heap.size w w3) := ⟨below_then HB2.out (HB2.out).size hb_⟩
      clear hb_
      dsimp only
      go_wp2_with (fail)
      go_ret3
      exact ⟨rfl, HB3.out⟩
    | true =>
      rw [if_pos rfl] at H
      by_cases hm2 : 0 ≤ a2 ∧ a2 ≤ 1000000
      · rw [if_pos hm2] at H
        by_cases hm3 : 0 ≤ a3 ∧ a3 ≤ 20
        · rw [if_pos hm3] at H
          by_cases hm4 : 1 ≤ a4 ∧ a4 ≤ 10000000
          · rw [if_pos hm4] at H
            obtain ⟨⟨c1_, c2_⟩, hc, H⟩ := Option.bind_eq_some_iff.mp H
            have AL := Aside0.mk hc
            clear hc
            obtain ⟨⟨s1, s2⟩, hs, H⟩ := Option.bind_eq_some_iff.mp H
            simp only [Option.some.injEq, Prod.mk.injEq] at H
            obtain ⟨rfl, rfl, rfl⟩ := H
            have HS := Aside0.mk hs
            clear hs
            go_enter Try.func14, Try.ntmps14
            go_wp2_with (fail)
            refine (impl_ValidOnsets.calls k A0 c0 l0 true _ (Kd.C_below HR0.out (Below.refl w.heap.size w)) HC0.out V0.out).mono ?_
            rintro e w2 ⟨rfl, hb_⟩
            have HB2 : Aside0 (Below w.heap.size w w2) := ⟨below_then (Below.refl w.heap.size w) ((Below.refl w.heap.size w)).size hb_⟩
            clear hb_
            dsimp only
            go_wp2_with (fail)
            refine (impl_ValidOnsets.calls k A1 c1 l1 true _ (Kd.C_below HR1.out HB2.out) HC1.out V1.out).mono ?_
            rintro e w3 ⟨rfl, hb_⟩
            have HB3 : Aside0 (Below w.heap.size w w3) := ⟨below_then HB2.out (HB2.out).size hb_⟩
            clear hb_
            dsimp only
            go_wp2_with (fail)
            refine (impl_within.calls a2 0 1000000 true _ (by rw [bs_within, decide_eq_true hm2])).mono ?_
            rintro e w4 ⟨rfl, ⟨nd_w4, rfl⟩⟩
            dsimp only
            go_wp2_with (fail)
            refine (impl_within.calls a3 0 20 true _ (by rw [bs_within, decide_eq_true hm3])).mono ?_
            rintro e w5 ⟨rfl, ⟨nd_w5, rfl⟩⟩
            dsimp only
            go_wp2_with (fail)
            refine (impl_within.calls a4 1 10000000 true _ (by rw [bs_within, decide_eq_true hm4])).mono ?_
            rintro e w6 ⟨rfl, ⟨nd_w6, rfl⟩⟩
            dsimp only
            go_wp2_with (fail)
            refine (impl_align.calls A0 c0 l0 A1 c1 l1 a2 c1_ c2_ _ (Kd.C_below HR0.out (by repeat (first | exact HB3.out | apply pw_below_drewN | apply below_drew1))) HC0.out (Kd.C_below HR1.out (by repeat (first | exact HB3.out | apply pw_below_drewN | apply below_drew1))) HC1.out AL.out).mono ?_
            rintro e w8 ⟨v8, rfl, hR8, hb_⟩
            have HB8 : Aside0 (Below w.heap.size w w8) := ⟨below_then (by repeat (first | exact HB3.out | apply pw_below_drewN | apply below_drew1)) (by exact HB3.out.size) hb_⟩
            clear hb_ hR8
            dsimp only
            go_wp2_with (fail)
            go_loopg [14, 15, 16] a3.toNat (fun gg v14 v15 v16 wr => ∃ (d : Nat) (n s1_ s2_ : Int), n + d = a3 + 1 ∧ 1 ≤ n ∧ d ≤ gg ∧ v16 = .int .i64 n ∧ v14 = .int .i64 s2_ ∧ v15 = .int .i64 s1_ ∧ Aside0 (bs_n k l0 l1 a2 a4 d n (s1_, s2_) = some (s1, s2)) ∧ Aside0 (Below w.heap.size w wr))
            case atStart => exact ⟨a3.toNat, 1, 0, c2_, by omega, by omega, Nat.le_refl _, rfl, rfl, rfl, HS, HB8⟩
            case round =>
              obtain ⟨d, n, s1_, s2_, hd, hn, hg, rfl, rfl, rfl, HN, BW⟩ := hrel
              cases d with
              | zero =>
                have hle : decide (n ≤ a3) = false := decide_eq_false (by omega)
                have hN := HN.out
                simp only [bs_n, Option.some.injEq, Prod.mk.injEq] at hN
                obtain ⟨rfl, rfl⟩ := hN
                go_wp2_with (fail)
                go_ret3
                exact ⟨rfl, BW.out⟩
              | succ d =>
                have hle : decide (n ≤ a3) = true := decide_eq_true (by omega)
                have hmul0 := al_mul (a := a4) (x := n) (by omega) (by omega) (by omega) (by omega)
                have hmul : 0 ≤ n * a4 ∧ n * a4 ≤ 2000000000000 := by rw [Int.mul_comm]; exact hmul0
                have hneg : -n * a4 = -(n * a4) := Int.neg_mul n a4
                have hnegb : -2000000000000 ≤ -n * a4 ∧ -n * a4 ≤ 0 := by rw [hneg]; omega
                clear hmul0 hneg
                go_wp2_with (fail)
                go_loopg [14, 15, 65] 2 (fun gg v14 v15 v65 wr => ∃ (j : Nat) (s1_ s2_ : Int), j ≤ 2 ∧ 2 - j ≤ gg ∧ v65 = .int .i64 (j : Int) ∧ v14 = .int .i64 s2_ ∧ v15 = .int .i64 s1_ ∧ Aside0 (bs_rest k l0 l1 a2 a4 d n j (s1_, s2_) = some (s1, s2)) ∧ Aside0 (Below w.heap.size w wr))
                case atStart => exact ⟨0, s1_, s2_, by omega, by omega, rfl, rfl, rfl, HN, BW⟩
                case round =>
                  obtain ⟨j, t1, t2, hj, hg2, rfl, rfl, rfl, HT, BX⟩ := hrel
                  have hj3 : j = 0 ∨ j = 1 ∨ j = 2 := by omega
                  rcases hj3 with rfl | rfl | rfl
                  · have hT := HT.out
                    simp only [bs_rest] at hT
                    obtain ⟨⟨u1, u2⟩, hst, hT⟩ := Option.bind_eq_some_iff.mp hT
                    have HT2 : Aside0 (bs_rest k l0 l1 a2 a4 d n 1 (u1, u2) = some (s1, s2)) := ⟨hT⟩
                    clear hT
                    unfold bs_step at hst
                    obtain ⟨out, ho, hst⟩ := Option.bind_eq_some_iff.mp hst
                    obtain ⟨b, hb, hst⟩ := Option.bind_eq_some_iff.mp hst
                    have HO := Aside0.mk ho
                    have HV := Aside0.mk hb
                    clear ho hb
                    have HST := Aside0.mk hst
                    clear hst
                    have hix := bs_ix0 (n * a4) (-n * a4)
                    go_wp2_with (fail)
                    refine (impl_shiftedBy.calls k A1 c1 l1 (n * a4) out _ (Kd.C_below HR1.out BX.out) HC1.out HO.out).mono ?_
                    rintro e wa ⟨va, rfl, hRa, hb_⟩
                    have BA : Aside0 (Below w.heap.size w wa) := ⟨below_then BX.out BX.out.size hb_⟩
                    clear hb_
                    obtain ⟨Aa, ca, rfl⟩ := Kd.R_slice hRa
                    have hCa := (Kd.R_reads' hRa).2.2
                    have hca := (Kd.R_reads' hRa).2.1
                    have CA := Aside0.mk hCa
                    have LA := Aside0.mk hca
                    clear hCa hca hRa
                    dsimp only
                    go_wp2_with (fail)
                    refine (impl_ValidOnsets.calls k Aa ca out b _ CA.out LA.out HV.out).mono ?_
                    rintro e wb ⟨rfl, hb_⟩
                    have BB : Aside0 (Below w.heap.size w wb) := ⟨below_then BA.out BA.out.size hb_⟩
                    have CB := Aside0.mk (Kd.C_below CA.out hb_)
                    clear hb_
                    dsimp only
                    cases b with
                    | false =>
                      have hq := HST.out
                      rw [if_neg (by simp)] at hq
                      simp only [Option.some.injEq, Prod.mk.injEq] at hq
                      obtain ⟨rfl, rfl⟩ := hq
                      go_wp2_with (fail)
                      go_roundg (2 - 1)
                      case measure => omega
                      case rel => exact ⟨1, t1, t2, by omega, by omega, by go_num, rfl, rfl, HT2, BB⟩
                    | true =>
                      have hq := HST.out
                      rw [if_pos rfl] at hq
                      obtain ⟨⟨d1, d2⟩, hal, hq⟩ := Option.bind_eq_some_iff.mp hq
                      have HAL := Aside0.mk hal
                      clear hal
                      go_wp2_with (fail)
                      refine (impl_align.calls A0 c0 l0 Aa ca out a2 d1 d2 _ (Kd.C_below HR0.out BB.out) HC0.out CB.out LA.out HAL.out).mono ?_
                      rintro e wd ⟨vd, rfl, hRd, hb_⟩
                      have BD : Aside0 (Below w.heap.size w wd) := ⟨below_then BB.out BB.out.size hb_⟩
                      clear hb_ hRd
                      dsimp only
                      by_cases hlt : d2 < t2
                      · rw [if_pos hlt] at hq
                        simp only [Option.some.injEq, Prod.mk.injEq] at hq
                        obtain ⟨rfl, rfl⟩ := hq
                        have hld : decide (d2 < t2) = true := decide_eq_true hlt
                        go_wp2_with (fail)
                        go_roundg (2 - 1)
                        case measure => omega
                        case rel => exact ⟨1, _, _, by omega, by omega, by go_num, rfl, rfl, HT2, BD⟩
                      · rw [if_neg hlt] at hq
                        simp only [Option.some.injEq, Prod.mk.injEq] at hq
                        obtain ⟨rfl, rfl⟩ := hq
                        have hld : decide (d2 < t2) = false := decide_eq_false hlt
                        go_wp2_with (fail)
                        go_roundg (2 - 1)
                        case measure => omega
                        case rel => exact ⟨1, _, _, by omega, by omega, by go_num, rfl, rfl, HT2, BD⟩
                  · have hT := HT.out
                    simp only [bs_rest] at hT
                    obtain ⟨⟨u1, u2⟩, hst, hT⟩ := Option.bind_eq_some_iff.mp hT
                    have HT2 : Aside0 (bs_rest k l0 l1 a2 a4 d n 2 (u1, u2) = some (s1, s2)) := ⟨hT⟩
                    clear hT
                    unfold bs_step at hst
                    obtain ⟨out, ho, hst⟩ := Option.bind_eq_some_iff.mp hst
                    obtain ⟨b, hb, hst⟩ := Option.bind_eq_some_iff.mp hst
                    have HO := Aside0.mk ho
                    have HV := Aside0.mk hb
                    clear ho hb
                    have HST := Aside0.mk hst
                    clear hst
                    have hix := bs_ix1 (n * a4) (-n * a4)
                    go_wp2_with (fail)
                    refine (impl_shiftedBy.calls k A1 c1 l1 (-n * a4) out _ (Kd.C_below HR1.out BX.out) HC1.out HO.out).mono ?_
                    rintro e wa ⟨va, rfl, hRa, hb_⟩
                    have BA : Aside0 (Below w.heap.size w wa) := ⟨below_then BX.out BX.out.size hb_⟩
                    clear hb_
                    obtain ⟨Aa, ca, rfl⟩ := Kd.R_slice hRa
                    have hCa := (Kd.R_reads' hRa).2.2
                    have hca := (Kd.R_reads' hRa).2.1
                    have CA := Aside0.mk hCa
                    have LA := Aside0.mk hca
                    clear hCa hca hRa
                    dsimp only
                    go_wp2_with (fail)
                    refine (impl_ValidOnsets.calls k Aa ca out b _ CA.out LA.out HV.out).mono ?_
                    rintro e wb ⟨rfl, hb_⟩
                    have BB : Aside0 (Below w.heap.size w wb) := ⟨below_then BA.out BA.out.size hb_⟩
                    have CB := Aside0.mk (Kd.C_below CA.out hb_)
                    clear hb_
                    dsimp only
                    cases b with
                    | false =>
                      have hq := HST.out
                      rw [if_neg (by simp)] at hq
                      simp only [Option.some.injEq, Prod.mk.injEq] at hq
                      obtain ⟨rfl, rfl⟩ := hq
                      go_wp2_with (fail)
                      go_roundg (2 - 2)
                      case measure => omega
                      case rel => exact ⟨2, t1, t2, by omega, by omega, by go_num, rfl, rfl, HT2, BB⟩
                    | true =>
                      have hq := HST.out
                      rw [if_pos rfl] at hq
                      obtain ⟨⟨d1, d2⟩, hal, hq⟩ := Option.bind_eq_some_iff.mp hq
                      have HAL := Aside0.mk hal
                      clear hal
                      go_wp2_with (fail)
                      refine (impl_align.calls A0 c0 l0 Aa ca out a2 d1 d2 _ (Kd.C_below HR0.out BB.out) HC0.out CB.out LA.out HAL.out).mono ?_
                      rintro e wd ⟨vd, rfl, hRd, hb_⟩
                      have BD : Aside0 (Below w.heap.size w wd) := ⟨below_then BB.out BB.out.size hb_⟩
                      clear hb_ hRd
                      dsimp only
                      by_cases hlt : d2 < t2
                      · rw [if_pos hlt] at hq
                        simp only [Option.some.injEq, Prod.mk.injEq] at hq
                        obtain ⟨rfl, rfl⟩ := hq
                        have hld : decide (d2 < t2) = true := decide_eq_true hlt
                        go_wp2_with (fail)
                        go_roundg (2 - 2)
                        case measure => omega
                        case rel => exact ⟨2, _, _, by omega, by omega, by go_num, rfl, rfl, HT2, BD⟩
                      · rw [if_neg hlt] at hq
                        simp only [Option.some.injEq, Prod.mk.injEq] at hq
                        obtain ⟨rfl, rfl⟩ := hq
                        have hld : decide (d2 < t2) = false := decide_eq_false hlt
                        go_wp2_with (fail)
                        go_roundg (2 - 2)
                        case measure => omega
                        case rel => exact ⟨2, _, _, by omega, by omega, by go_num, rfl, rfl, HT2, BD⟩
                  · go_wp2_with (fail)
                    go_roundg d
                    case measure => omega
                    case rel => exact ⟨d, n + 1, t1, t2, by omega, by omega, Nat.le_refl _, by go_num, rfl, rfl, HT, BX⟩
          · rw [if_neg hm4] at H
            simp only [Option.some.injEq, Prod.mk.injEq] at H
            obtain ⟨rfl, rfl, rfl⟩ := H
            go_enter Try.func14, Try.ntmps14
            go_wp2_with (fail)
            refine (impl_ValidOnsets.calls k A0 c0 l0 true _ (Kd.C_below HR0.out (Below.refl w.heap.size w)) HC0.out V0.out).mono ?_
            rintro e w2 ⟨rfl, hb_⟩
            have HB2 : Aside0 (Below w.heap.size w w2) := ⟨below_then (Below.refl w.heap.size w) ((Below.refl w.heap.size w)).size hb_⟩
            clear hb_
            dsimp only
            go_wp2_with (fail)
            refine (impl_ValidOnsets.calls k A1 c1 l1 true _ (Kd.C_below HR1.out HB2.out) HC1.out V1.out).mono ?_
            rintro e w3 ⟨rfl, hb_⟩
            have HB3 : Aside0 (Below w.heap.size w w3) := ⟨below_then HB2.out (HB2.out).size hb_⟩
            clear hb_
            dsimp only
            go_wp2_with (fail)
            refine (impl_within.calls a2 0 1000000 true _ (by rw [bs_within, decide_eq_true hm2])).mono ?_
            rintro e w4 ⟨rfl, ⟨nd_w4, rfl⟩⟩
            dsimp only
            go_wp2_with (fail)
            refine (impl_within.calls a3 0 20 true _ (by rw [bs_within, decide_eq_true hm3])).mono ?_
            rintro e w5 ⟨rfl, ⟨nd_w5, rfl⟩⟩
            dsimp only
            go_wp2_with (fail)
            refine (impl_within.calls a4 1 10000000 false _ (by rw [bs_within, decide_eq_false hm4])).mono ?_
            rintro e w6 ⟨rfl, ⟨nd_w6, rfl⟩⟩
            dsimp only
            go_wp2_with (fail)
            go_ret3
            exact ⟨rfl, by repeat (first | exact HB3.out | apply pw_below_drewN | apply below_drew1)⟩
        · rw [if_neg hm3] at H
          simp only [Option.some.injEq, Prod.mk.injEq] at H
          obtain ⟨rfl, rfl, rfl⟩ := H
          go_enter Try.func14, Try.ntmps14
          go_wp2_with (fail)
          refine (impl_ValidOnsets.calls k A0 c0 l0 true _ (Kd.C_below HR0.out (Below.refl w.heap.size w)) HC0.out V0.out).mono ?_
          rintro e w2 ⟨rfl, hb_⟩
          have HB2 : Aside0 (Below w.heap.size w w2) := ⟨below_then (Below.refl w.heap.size w) ((Below.refl w.heap.size w)).size hb_⟩
          clear hb_
          dsimp only
          go_wp2_with (fail)
          refine (impl_ValidOnsets.calls k A1 c1 l1 true _ (Kd.C_below HR1.out HB2.out) HC1.out V1.out).mono ?_
          rintro e w3 ⟨rfl, hb_⟩
          have HB3 : Aside0 (Below w.heap.size w w3) := ⟨below_then HB2.out (HB2.out).size hb_⟩
          clear hb_
          dsimp only
          go_wp2_with (fail)
          refine (impl_within.calls a2 0 1000000 true _ (by rw [bs_within, decide_eq_true hm2])).mono ?_
          rintro e w4 ⟨rfl, ⟨nd_w4, rfl⟩⟩
          dsimp only
          go_wp2_with (fail)
          refine (impl_within.calls a3 0 20 false _ (by rw [bs_within, decide_eq_false hm3])).mono ?_
          rintro e w5 ⟨rfl, ⟨nd_w5, rfl⟩⟩
          dsimp only
          go_wp2_with (fail)
          go_ret3
          exact ⟨rfl, by repeat (first | exact HB3.out | apply pw_below_drewN | apply below_drew1)⟩
      · rw [if_neg hm2] at H
        simp only [Option.some.injEq, Prod.mk.injEq] at H
        obtain ⟨rfl, rfl, rfl⟩ := H
        go_enter Try.func14, Try.ntmps14
        go_wp2_with (fail)
        refine (impl_ValidOnsets.calls k A0 c0 l0 true _ (Kd.C_below HR0.out (Below.refl w.heap.size w)) HC0.out V0.out).mono ?_
        rintro e w2 ⟨rfl, hb_⟩
        have HB2 : Aside0 (Below w.heap.size w w2) := ⟨below_then (Below.refl w.heap.size w) ((Below.refl w.heap.size w)).size hb_⟩
        clear hb_
        dsimp only
        go_wp2_with (fail)
        refine (impl_ValidOnsets.calls k A1 c1 l1 true _ (Kd.C_below HR1.out HB2.out) HC1.out V1.out).mono ?_
        rintro e w3 ⟨rfl, hb_⟩
        have HB3 : Aside0 (Below w.heap.size w w3) := ⟨below_then HB2.out (HB2.out).size hb_⟩
        clear hb_
        dsimp only
        go_wp2_with (fail)
        refine (impl_within.calls a2 0 1000000 false _ (by rw [bs_within, decide_eq_false hm2])).mono ?_
        rintro e w4 ⟨rfl, ⟨nd_w4, rfl⟩⟩
        dsimp only
        go_wp2_with (fail)
        go_ret3
        exact ⟨rfl, by repeat (first | exact HB3.out | apply pw_below_drewN | apply below_drew1)⟩

/-! ### laws_toInt64S: function 17 -/
def laws_toInt64S.l0 : Nat → List Int → List Int → Int → Option (List Int)
  | 0, _, _, _ => none
  | k + 1, x0, x3, x4 => if x4 < (x0.length : Int) then (if 0 ≤ x4 then (if x4 < (x3.length : Int) then (laws_toInt64S.l0 k x0 (x3.set (x4 : Int).toNat (rd x0 x4)) (wrap64 (x4 + 1))) else (none)) else (none)) else (some x3)
def laws_toInt64S.f (k : Nat) (l0 : List Int) : Option (List Int) := if 0 ≤ (l0.length : Int) then (if ((l0.length : Int) : Int).toNat ≤ 35184372088832 then (laws_toInt64S.l0 k l0 (List.replicate ((l0.length : Int) : Int).toNat 0) 0) else (none)) else (none)
theorem laws_toInt64S.mono_l : ∀ k, (∀ y0 y1 y2, LeO (laws_toInt64S.l0 k y0 y1 y2) (laws_toInt64S.l0 (k + 1) y0 y1 y2))
  | 0 => fun _ _ _ r h => by simp [laws_toInt64S.l0] at h
  | k + 1 => by
    have ih0 := laws_toInt64S.mono_l k
    · intro y0 y1 y2
      unfold laws_toInt64S.l0
      repeat' first
      | (with_reducible exact ih0 _ _ _)
      | (with_reducible exact LeO.refl _)
      | (with_reducible exact LeO.none _)
      | (with_reducible refine LeO.ite ?_ ?_)
      | (with_reducible refine LeO.bind ?_ (fun _ => ?_))
      | exact ih0 _ _ _
      | exact LeO.none _
      | refine LeO.ite ?_ ?_
      | refine LeO.bind ?_ (fun _ => ?_)
theorem laws_toInt64S.mono : ∀ a0 k, LeO (laws_toInt64S.f k a0) (laws_toInt64S.f (k + 1) a0) := by
  intro a0 k
  have ih0 := laws_toInt64S.mono_l k
  unfold laws_toInt64S.f
  repeat' first
      | (with_reducible exact ih0 _ _ _)
      | (with_reducible exact LeO.refl _)
      | (with_reducible exact LeO.none _)
      | (with_reducible refine LeO.ite ?_ ?_)
      | (with_reducible refine LeO.bind ?_ (fun _ => ?_))
      | exact ih0 _ _ _
      | exact LeO.none _
      | refine LeO.ite ?_ ?_
      | refine LeO.bind ?_ (fun _ => ?_)
set_option maxHeartbeats 8000000 in
set_option maxRecDepth 100000 in
theorem laws_toInt64S.calls (k : Nat) (A0 : Option Addr) (c0 : Nat) (l0 : List Int) (r : List Int) (w : World) (hr0 : Kd.C (Kd.int .i64) w A0 l0.length l0) (hc0 : l0.length ≤ c0) (h : laws_toInt64S.f k l0 = some r) :
    Calls Try.prog 17 #[.slice A0 l0.length c0] w fun e w' => ∃ v0_ : Value, e = .returned (v0_) ∧ Kd.R (Kd.int .i64) 2 w' w.heap.size (fun _ => True) v0_ r ∧ Below w.heap.size w w' := by
  have HR0 := Aside0.mk hr0
  have HC0 := Aside0.mk hc0
  clear hr0 hc0
  have HB := Aside0.mk (Below.refl w.heap.size w)
  have H : (if 0 ≤ (l0.length : Int) then (if ((l0.length : Int) : Int).toNat ≤ 35184372088832 then (laws_toInt64S.l0 k l0 (List.replicate ((l0.length : Int) : Int).toNat 0) 0) else (none)) else (none)) = some r := h
  clear h
  by_cases c2 : 0 ≤ (l0.length : Int)
  · rw [if_pos c2] at H
    have c2b0 := eq_true c2
    have c2b1 : decide (0 ≤ (l0.length : Int)) = true := decide_eq_true c2
    clear c2
    by_cases c3 : ((l0.length : Int) : Int).toNat ≤ 35184372088832
    · rw [if_pos c3] at H
      have c3b0 := eq_true c3
      have c3b1 : decide (((l0.length : Int) : Int).toNat ≤ 35184372088832) = true := decide_eq_true c3
      clear c3
      obtain ⟨y110, hy110⟩ : ∃ y_ : List Int, y_ = (List.replicate ((l0.length : Int) : Int).toNat 0) := ⟨_, rfl⟩
      replace H : (laws_toInt64S.l0 k l0 y110 0) = some r := by first | (rw [hy110]; with_reducible exact H) | (have H2_ := (Option.bind_some _ _).symm.trans H; rw [hy110]; with_reducible exact H2_) | (have H2_ := (Option.bind_some _ _).symm.trans H; with_reducible exact H2_) | with_reducible exact H | (rw [hy110]; exact H) | exact H
      have Ny110 := Aside0.mk hy110
      clear hy110
      have H' := Aside0.mk H
      clear H
      go_enter Try.func17, Try.ntmps17
      go_wp2_with (first | ((with_reducible refine gate_dst (N := 7) rfl ?_); refine Kd.R_make (Kd.int .i64) _ 2 rfl (N := 7) rfl 24 _ _ rfl (l0.length : Int) rfl rfl Try.underlying24 (.int .i64 0) 8 info2 rfl (by decide) (by omega) 0 (ok := fun _ => True) (okp := fun _ => True) rfl (fun _ hk => hk) trivial (of_decide_eq_true (by first | (with_reducible assumption) | assumption)) (Nat.le_trans (Nat.mul_le_mul_right _ (of_decide_eq_true (by first | (with_reducible assumption) | assumption) : (l0.length : Int).toNat ≤ 35184372088832)) (by omega)) (Below.refl _ _) (Nat.le_refl _) ?_; intro v111 w4 ho5 hb hg_ hnew_; clear hg_ hnew_; (first | rw [← Ny110.out] at ho5 | (simp only [Int.reduceToNat] at ho5; rw [← Ny110.out] at ho5)); have n0_ := Aside0.mk (Kd.R_lower ho5 (below_size (by repeat (first | (with_reducible first | exact HB.out | apply below_alloc | apply pw_below_drewN | apply below_drew1) | exact HB.out)))); have n1_ := Aside0.mk (below_step (by repeat (first | (with_reducible first | exact HB.out | apply below_alloc | apply pw_below_drewN | apply below_drew1) | exact HB.out)) hb); clear HB; have HO112 := n0_; have HB := n1_; clear n0_ n1_; clear hb ho5))
      go_loopg [4] k (fun kq v4 w' => ∃ (x3_1 : List Int) (x4_1 : Int), v4 = .int .i64 x4_1 ∧ Aside0 (laws_toInt64S.l0 kq l0 x3_1 x4_1 = some r) ∧ Aside0 (kq ≤ k) ∧ Aside0 (Kd.R (Kd.int .i64) 2 w' w.heap.size (fun _ => True) v111 x3_1) ∧ Aside0 (Below w.heap.size w w'))
      case atStart => exact ⟨(y110), (0), (by first | rfl | (simp; done) | (simp [*]; done)), H', ⟨Nat.le_refl _⟩, ⟨by (with_reducible repeat (first | apply Kd.R_alloc | apply Kd.R_drewN | apply Kd.R_drew)); exact HO112.out⟩, ⟨by repeat (first | (with_reducible first | exact HB.out | apply below_alloc | apply pw_below_drewN | apply below_drew1) | exact HB.out)⟩⟩
      case round =>
        clear H'
        try clear c1
        try clear c2
        try clear c2b0
        try clear c2b1
        try clear p2
        try clear c3
        try clear c3b0
        try clear c3b1
        obtain ⟨x3_1, x4_1, rfl, HA, HK1, HO_3, HB⟩ := hrel
        cases gk with
        | zero => exact absurd HA.out (by simp [laws_toInt64S.l0])
        | succ k1 =>
          have H := HA.out
          clear HA
          simp only [laws_toInt64S.l0] at H
          by_cases c6 : x4_1 < (l0.length : Int)
          · rw [if_pos c6] at H
            have c6b0 : decide (x4_1 < (l0.length : Int)) = true := decide_eq_true c6
            clear c6
            by_cases c7 : 0 ≤ x4_1
            · rw [if_pos c7] at H
              have c7b0 : decide (0 ≤ x4_1) = true := decide_eq_true c7
              clear c7
              by_cases c8 : x4_1 < (x3_1.length : Int)
              · rw [if_pos c8] at H
                have c8b0 : decide (x4_1 < (x3_1.length : Int)) = true := decide_eq_true c8
                clear c8
                obtain ⟨y114, hy114⟩ : ∃ y_ : List Int, y_ = (x3_1.set (x4_1 : Int).toNat (rd l0 x4_1)) := ⟨_, rfl⟩
                replace H : (laws_toInt64S.l0 k1 l0 y114 (wrap64 (x4_1 + 1))) = some r := by first | (rw [hy114]; with_reducible exact H) | (have H2_ := (Option.bind_some _ _).symm.trans H; rw [hy114]; with_reducible exact H2_) | (have H2_ := (Option.bind_some _ _).symm.trans H; with_reducible exact H2_) | with_reducible exact H | (rw [hy114]; exact H) | exact H
                have Ny114 := Aside0.mk hy114
                clear hy114
                have H' := Aside0.mk H
                clear H
                have p113 : 0 ≤ (x4_1 : Int) := of_decide_eq_true (by first | (with_reducible assumption) | assumption)
                have q113 : x4_1 < (l0.length : Int) := of_decide_eq_true (by first | (with_reducible assumption) | assumption)
                obtain ⟨ad113, e113, hx113_0⟩ := Kd.at_int HR0.out x4_1 p113 q113
                cases e113
                replace hx113_0 := (HB.out.cell (World.block_lt_of_cell? w _ hx113_0)).trans hx113_0
                replace p113 := eq_true p113
                replace q113 := eq_true q113
                have p9 : 0 ≤ (x4_1 : Int) := of_decide_eq_true (by first | (with_reducible assumption) | assumption)
                have q9 : (x4_1 : Int) < ((x3_1.length : Int) : Int) := of_decide_eq_true (by first | (with_reducible assumption) | assumption)
                obtain ⟨go9, co9, eo9, gb9, gl9, cl9, HG9⟩ := Kd.R_form HO_3.out (by omega)
                (first | cases eo9 | (injection eo9 with ea_ en_ ec_; (first | subst ea_ | (injection ea_ with ea_; subst ea_)); subst ec_; clear en_))
                have GB9 := Aside0.mk gb9
                have GG9 := Aside0.mk HG9
                clear gb9 gl9 HG9
                obtain ⟨hx9_0, hf9_0⟩ := Kd.R_celln 0 HO_3.out (x4_1 : Int) p9 q9
                replace p9 := eq_true p9
                replace q9 := eq_true q9
                have HP10 := Kd.R_putg HO_3.out (x4_1 : Int) (rd l0 x4_1)
                go_wp2_with (first | ((with_reducible refine gate_store (t := 2) (p := 20) rfl ?_); refine store_event (t := 2) (p := 20) (v := ?vo_w11) (w1 := (wr.setCell ⟨go9, (x4_1 : Int).toNat, none⟩ (.int .i64 (rd l0 x4_1)))) ?hg ?ho ?hn ?hr ?_; (case ho => rfl); (case hg => rfl); (case hn => rfl); (case hr => first | (go_simp; done) | (go_simp; rfl)); intro w11 hw; have hg : wr.grownBy w11 (some go9) := (by rw [hw]; exact HP10.2); have hp_ : Kd.R (Kd.int .i64) 2 w11 w.heap.size (fun _ => True) (.slice (some ⟨go9, 0, none⟩) x3_1.length co9) y114 := (by rw [hw, Ny114.out]; exact HP10.1); clear HP10; have n0_ := Aside0.mk (hp_); have n1_ := Aside0.mk ((by rw [hw]; exact below_set (HB.out) GB9.out : Below w.heap.size w w11)); clear HO_3; clear HB; have HO_3 := n0_; have HB := n1_; clear n0_ n1_; clear hg hw hp_))
                go_roundg k1
                case measure => have := HK1.out; omega
                case rel => exact ⟨(y114), (wrap64 (x4_1 + 1)), (by first | rfl | (simp; done) | (simp [*]; done)), H', ⟨by have := HK1.out; omega⟩, ⟨by (with_reducible repeat (first | apply Kd.R_alloc | apply Kd.R_drewN | apply Kd.R_drew)); exact HO_3.out⟩, ⟨by repeat (first | (with_reducible first | exact HB.out | apply below_alloc | apply pw_below_drewN | apply below_drew1) | exact HB.out)⟩⟩
              · rw [if_neg c8] at H
                exact absurd H (by simp)
            · rw [if_neg c7] at H
              exact absurd H (by simp)
          · rw [if_neg c6] at H
            have c6b0 : decide (x4_1 < (l0.length : Int)) = false := decide_eq_false c6
            clear c6
            obtain rfl := Option.some.inj H
            go_wp2
            go_ret
            exact ⟨_, by first | rfl | (simp [errW_none, errW_some] <;> rfl) | (simp [*, errW_none, errW_some] <;> rfl), by (with_reducible repeat (first | apply Kd.R_alloc | apply Kd.R_drewN | apply Kd.R_drew)); exact HO_3.out, by repeat (first | (with_reducible first | exact HB.out | apply below_alloc | apply pw_below_drewN | apply below_drew1) | exact HB.out)⟩
    · rw [if_neg c3] at H
      exact absurd H (by simp)
  · rw [if_neg c2] at H
    exact absurd H (by simp)

/-! ### laws_eqInt64S: function 18 -/
def laws_eqInt64S.l0 : Nat → List Int → List Int → Int → Option (Bool)
  | 0, _, _, _ => none
  | k + 1, x0, x1, x5 => if x5 < (x0.length : Int) then (if 0 ≤ x5 then (if x5 < (x1.length : Int) then (if (rd x0 x5) = (rd x1 x5) then (laws_eqInt64S.l0 k x0 x1 (wrap64 (x5 + 1))) else (some false)) else (none)) else (none)) else (some true)
def laws_eqInt64S.f (k : Nat) (l0 : List Int) (l1 : List Int) : Option (Bool) := if (l0.length : Int) = (l1.length : Int) then (laws_eqInt64S.l0 k l0 l1 0) else (some false)
theorem laws_eqInt64S.mono_l : ∀ k, (∀ y0 y1 y2, LeO (laws_eqInt64S.l0 k y0 y1 y2) (laws_eqInt64S.l0 (k + 1) y0 y1 y2))
  | 0 => fun _ _ _ r h => by simp [laws_eqInt64S.l0] at h
  | k + 1 => by
    have ih0 := laws_eqInt64S.mono_l k
    · intro y0 y1 y2
      unfold laws_eqInt64S.l0
      repeat' first
      | (with_reducible exact ih0 _ _ _)
      | (with_reducible exact LeO.refl _)
      | (with_reducible exact LeO.none _)
      | (with_reducible refine LeO.ite ?_ ?_)
      | (with_reducible refine LeO.bind ?_ (fun _ => ?_))
      | exact ih0 _ _ _
      | exact LeO.none _
      | refine LeO.ite ?_ ?_
      | refine LeO.bind ?_ (fun _ => ?_)
theorem laws_eqInt64S.mono : ∀ a0 a1 k, LeO (laws_eqInt64S.f k a0 a1) (laws_eqInt64S.f (k + 1) a0 a1) := by
  intro a0 a1 k
  have ih0 := laws_eqInt64S.mono_l k
  unfold laws_eqInt64S.f
  repeat' first
      | (with_reducible exact ih0 _ _ _)
      | (with_reducible exact LeO.refl _)
      | (with_reducible exact LeO.none _)
      | (with_reducible refine LeO.ite ?_ ?_)
      | (with_reducible refine LeO.bind ?_ (fun _ => ?_))
      | exact ih0 _ _ _
      | exact LeO.none _
      | refine LeO.ite ?_ ?_
      | refine LeO.bind ?_ (fun _ => ?_)
set_option maxHeartbeats 8000000 in
set_option maxRecDepth 100000 in
theorem laws_eqInt64S.calls (k : Nat) (A0 : Option Addr) (c0 : Nat) (l0 : List Int) (A1 : Option Addr) (c1 : Nat) (l1 : List Int) (r : Bool) (w : World) (hr0 : Kd.C (Kd.int .i64) w A0 l0.length l0) (hc0 : l0.length ≤ c0) (hr1 : Kd.C (Kd.int .i64) w A1 l1.length l1) (hc1 : l1.length ≤ c1) (h : laws_eqInt64S.f k l0 l1 = some r) :
    Calls Try.prog 18 #[.slice A0 l0.length c0, .slice A1 l1.length c1] w fun e w' => e = .returned (.bool r) ∧ Drawn0 w w' := by
  have HR0 := Aside0.mk hr0
  have HC0 := Aside0.mk hc0
  clear hr0 hc0
  have HR1 := Aside0.mk hr1
  have HC1 := Aside0.mk hc1
  clear hr1 hc1
  have H : (if (l0.length : Int) = (l1.length : Int) then (laws_eqInt64S.l0 k l0 l1 0) else (some false)) = some r := h
  clear h
  by_cases c3 : (l0.length : Int) = (l1.length : Int)
  · rw [if_pos c3] at H
    have c3b0 : ((l0.length : Int) == (l1.length : Int)) = true := beq_iff_eq.mpr c3
    have c3b1 : ((l0.length : Int) != (l1.length : Int)) = false := bne_eq_false_iff_eq.mpr c3
    have c3b2 : (l0.length == l1.length) = true := by first | simpa using c3 | (simp at c3 ⊢; omega)
    clear c3
    have H' := Aside0.mk H
    clear H
    go_enter Try.func18, Try.ntmps18
    go_wp2
    repeat (go_quiet (fail); try go_wp2)
    go_loopg [5] k (fun kq v5 w' => ∃ (x5_1 : Int), v5 = .int .i64 x5_1 ∧ Aside0 (laws_eqInt64S.l0 kq l0 l1 x5_1 = some r) ∧ Aside0 (kq ≤ k) ∧ Drawn0 w w')
    case atStart => exact ⟨(0), (by first | rfl | (simp; done) | (simp [*]; done)), H', ⟨Nat.le_refl _⟩, by repeat (first | exact Drawn0.refl _ | apply Drawn0.step)⟩
    case round =>
      clear H'
      try clear c1
      try clear p2
      try clear c3
      try clear c3b0
      try clear c3b1
      try clear c3b2
      obtain ⟨x5_1, rfl, HA, HK1, ⟨m1, rfl⟩⟩ := hrel
      cases gk with
      | zero => exact absurd HA.out (by simp [laws_eqInt64S.l0])
      | succ k1 =>
        have H := HA.out
        clear HA
        simp only [laws_eqInt64S.l0] at H
        by_cases c4 : x5_1 < (l0.length : Int)
        · rw [if_pos c4] at H
          have c4b0 : decide (x5_1 < (l0.length : Int)) = true := decide_eq_true c4
          clear c4
          by_cases c5 : 0 ≤ x5_1
          · rw [if_pos c5] at H
            have c5b0 : decide (0 ≤ x5_1) = true := decide_eq_true c5
            clear c5
            by_cases c6 : x5_1 < (l1.length : Int)
            · rw [if_pos c6] at H
              have c6b0 : decide (x5_1 < (l1.length : Int)) = true := decide_eq_true c6
              clear c6
              by_cases c7 : (rd l0 x5_1) = (rd l1 x5_1)
              · rw [if_pos c7] at H
                have c7b0 : ((rd l0 x5_1) == (rd l1 x5_1)) = true := beq_iff_eq.mpr c7
                have c7b1 : ((rd l0 x5_1) != (rd l1 x5_1)) = false := bne_eq_false_iff_eq.mpr c7
                clear c7
                have H' := Aside0.mk H
                clear H
                have p115 : 0 ≤ (x5_1 : Int) := of_decide_eq_true (by first | (with_reducible assumption) | assumption)
                have q115 : x5_1 < (l0.length : Int) := of_decide_eq_true (by first | (with_reducible assumption) | assumption)
                obtain ⟨ad115, e115, hx115_0⟩ := Kd.at_int HR0.out x5_1 p115 q115
                cases e115
                replace p115 := eq_true p115
                replace q115 := eq_true q115
                have p116 : 0 ≤ (x5_1 : Int) := of_decide_eq_true (by first | (with_reducible assumption) | assumption)
                have q116 : x5_1 < (l1.length : Int) := of_decide_eq_true (by first | (with_reducible assumption) | assumption)
                obtain ⟨ad116, e116, hx116_0⟩ := Kd.at_int HR1.out x5_1 p116 q116
                cases e116
                replace p116 := eq_true p116
                replace q116 := eq_true q116
                go_wp2
                repeat (go_quiet (fail); try go_wp2)
                go_roundg k1
                case measure => have := HK1.out; omega
                case rel => exact ⟨(wrap64 (x5_1 + 1)), (by first | rfl | (simp; done) | (simp [*]; done)), H', ⟨by have := HK1.out; omega⟩, by repeat (first | exact Drawn0.refl _ | apply Drawn0.step)⟩
              · rw [if_neg c7] at H
                have c7b0 : ((rd l0 x5_1) == (rd l1 x5_1)) = false := beq_eq_false_iff_ne.mpr c7
                have c7b1 : ((rd l0 x5_1) != (rd l1 x5_1)) = true := bne_iff_ne.mpr c7
                obtain rfl := Option.some.inj H
                have p115 : 0 ≤ (x5_1 : Int) := of_decide_eq_true (by first | (with_reducible assumption) | assumption)
                have q115 : x5_1 < (l0.length : Int) := of_decide_eq_true (by first | (with_reducible assumption) | assumption)
                obtain ⟨ad115, e115, hx115_0⟩ := Kd.at_int HR0.out x5_1 p115 q115
                cases e115
                replace p115 := eq_true p115
                replace q115 := eq_true q115
                have p116 : 0 ≤ (x5_1 : Int) := of_decide_eq_true (by first | (with_reducible assumption) | assumption)
                have q116 : x5_1 < (l1.length : Int) := of_decide_eq_true (by first | (with_reducible assumption) | assumption)
                obtain ⟨ad116, e116, hx116_0⟩ := Kd.at_int HR1.out x5_1 p116 q116
                cases e116
                replace p116 := eq_true p116
                replace q116 := eq_true q116
                go_wp2
                repeat (go_quiet (fail); try go_wp2)
                go_ret
                exact ⟨by first | rfl | (simp; done) | (simp [*]; done), by repeat (first | exact Drawn0.refl _ | apply Drawn0.step)⟩
            · rw [if_neg c6] at H
              exact absurd H (by simp)
          · rw [if_neg c5] at H
            exact absurd H (by simp)
        · rw [if_neg c4] at H
          have c4b0 : decide (x5_1 < (l0.length : Int)) = false := decide_eq_false c4
          clear c4
          obtain rfl := Option.some.inj H
          go_wp2
          repeat (go_quiet (fail); try go_wp2)
          go_ret
          exact ⟨by first | rfl | (simp; done) | (simp [*]; done), by repeat (first | exact Drawn0.refl _ | apply Drawn0.step)⟩
  · rw [if_neg c3] at H
    have c3b0 : ((l0.length : Int) == (l1.length : Int)) = false := beq_eq_false_iff_ne.mpr c3
    have c3b1 : ((l0.length : Int) != (l1.length : Int)) = true := bne_iff_ne.mpr c3
    have c3b2 : (l0.length == l1.length) = false := by first | simpa using c3 | (simp at c3 ⊢; omega)
    obtain rfl := Option.some.inj H
    go_enter Try.func18, Try.ntmps18
    go_wp2
    repeat (go_quiet (fail); try go_wp2)
    go_ret
    exact ⟨by first | rfl | (simp; done) | (simp [*]; done), by repeat (first | exact Drawn0.refl _ | apply Drawn0.step)⟩

/-! ### spec_l00In: function 36 -/
def spec_l00In.f (a0 : Int) (a1 : Int) (a2 : Int) : Option (Bool) := if a0 ≥ a1 then (some (decide (a0 ≤ a2))) else (some false)
set_option maxHeartbeats 8000000 in
set_option maxRecDepth 100000 in
theorem spec_l00In.calls (a0 : Int) (a1 : Int) (a2 : Int) (r : Bool) (w : World) (h : spec_l00In.f a0 a1 a2 = some r) :
    Calls Try.prog 36 #[.int .i64 a0, .int .i64 a1, .int .i64 a2] w fun e w' => e = .returned (.bool r) ∧ Drawn0 w w' := by
  have H : (if a0 ≥ a1 then (some (decide (a0 ≤ a2))) else (some false)) = some r := h
  clear h
  by_cases c4 : a0 ≥ a1
  · rw [if_pos c4] at H
    have c4b0 : decide (a1 ≤ a0) = true := decide_eq_true c4
    clear c4
    obtain rfl := Option.some.inj H
    go_enter Try.func36, Try.ntmps36
    go_wp2
    go_ret
    exact ⟨by first | rfl | (simp; done) | (simp [*]; done), by repeat (first | exact Drawn0.refl _ | apply Drawn0.step)⟩
  · rw [if_neg c4] at H
    have c4b0 : decide (a1 ≤ a0) = false := decide_eq_false c4
    clear c4
    obtain rfl := Option.some.inj H
    go_enter Try.func36, Try.ntmps36
    go_wp2
    go_ret
    exact ⟨by first | rfl | (simp; done) | (simp [*]; done), by repeat (first | exact Drawn0.refl _ | apply Drawn0.step)⟩

end Go.Proofs.Ytoohfhgmflgmcaa.PFnExactBestShift
