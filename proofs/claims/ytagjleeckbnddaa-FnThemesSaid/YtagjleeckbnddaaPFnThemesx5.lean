-- written by xprint.py, a program of this repo over the kit's print; not trusted: Lean checks it
import Derived.Test.YtagjleeckbnddaaPFnThemesx0
import Derived.Test.YtagjleeckbnddaaPFnThemesx3
import Derived.Test.YtagjleeckbnddaaPFnThemesx4
namespace Go.Proofs.Ytagjleeckbnddaa.PFnThemes
open Go.RowKit Go.Proofs.YtagjleeckbnddaaW.PrintWords Go.Proofs.YtagjleeckbnddaaW.PrintLast Go.Proofs.YtagjleeckbnddaaW.PrintMore
attribute [local go_sem] max2_int min2_int max_two min_two max_three min_three max_four min_four   -- for this text's walks alone
set_option linter.unusedVariables false
set_option linter.unusedSimpArgs false

open Go.Proofs.YtagjleeckbnddaaXW (unds_ putU val_)
open List renaming setIfInBounds_toArray → s0_, set_cons_zero → s1_, set_cons_succ → s2_
abbrev bz5_0 : Array Bool := #[false,false,false,false,false,false,false,false,false,false,false,false,false,false,false,false]
abbrev bz5_1 : Array Bool := #[true,false,false,false,false,false,false,false,false,false,false,false,false,false,false,false]
abbrev bz5_2 : Array Bool := #[true,true,false,false,false,false,false,false,false,false,false,false,false,false,false,false]
abbrev bz5_3 : Array Bool := #[true,true,true,false,false,false,false,false,false,false,false,false,false,false,false,false]
abbrev bz5_4 : Array Bool := #[true,true,true,true,false,false,false,false,false,false,false,false,false,false,false,false]
abbrev bz5_5 : Array Bool := #[true,true,true,true,true,false,false,false,false,false,false,false,false,false,false,false]
abbrev bz5_6 : Array Bool := #[true,true,true,true,true,true,false,false,false,false,false,false,false,false,false,false]
abbrev bz5_7 : Array Bool := #[true,true,true,true,true,true,true,false,false,false,false,false,false,false,false,false]
abbrev bz5_8 : Array Bool := #[true,true,true,true,true,true,true,false,true,false,false,false,false,false,false,false]
abbrev bz5_9 : Array Bool := #[true,true,true,true,true,true,true,false,true,true,false,false,false,false,false,false]
abbrev bz5_10 : Array Bool := #[true,true,true,true,true,true,true,false,true,true,true,false,false,false,false,false]
abbrev bz5_11 : Array Bool := #[true,true,true,true,true,true,true,true,true,true,true,false,false,false,false,false]
abbrev bz5_12 : Array Bool := #[true,true,true,true,true,true,true,true,true,true,true,true,false,false,false,false]
abbrev bz5_13 : Array Bool := #[true,true,true,true,true,true,true,true,true,true,true,true,true,false,false,false]
abbrev bz5_14 : Array Bool := #[true,true,true,true,true,true,true,true,true,true,true,true,true,true,false,false]
abbrev bz5_15 : Array Bool := #[true,true,true,true,true,true,true,true,true,true,true,true,true,true,true,false]
abbrev bz5_16 : Array Bool := #[true,true,true,true,true,true,true,true,true,true,true,true,true,true,true,true]
/-! ### impl_themeCode: function 49 -/
def impl_themeCode.j0 : Nat → Int → Bool → Option (Int)
 | 0, _, _ => none
 | k + 1, x2, x11 => if x11 = true then (some 7) else ((impl_within.f x2 1 32).bind fun t303 => (if t303 = true then (some 0) else (some 2)))
def impl_themeCode.f (k : Nat) (l0 : List (S93)) (l1 : List Int) (a2 : Int) : Option (Int) := (impl_ValidSyllables.f k l0).bind fun t301 => (if t301 = true then (if (l1.length : Int) < 1 then (impl_themeCode.j0 k a2 true) else (if (l1.length : Int) > 32 then (impl_themeCode.j0 k a2 true) else ((impl_composedOk.f l0 l1).bind fun t302 => (impl_themeCode.j0 k a2 (!t302))))) else (some 1))
theorem impl_themeCode.mono_l : ∀ k, (∀ y0 y1, LeO (impl_themeCode.j0 k y0 y1) (impl_themeCode.j0 (k + 1) y0 y1))
 | 0 => fun _ _ r h => by simp [impl_themeCode.j0] at h
 | k + 1 => by
  have ih0 := impl_themeCode.mono_l k
  ·intro y0 y1
   unfold impl_themeCode.j0
   repeat' first
   | (with_reducible exact ih0 _ _)
   | (with_reducible exact impl_ValidSyllables.mono _ _)
   | (with_reducible exact LeO.refl _)
   | (with_reducible exact LeO.none _)
   | (with_reducible refine LeO.ite ?_ ?_)
   | (with_reducible refine LeO.bind ?_ (fun _ => ?_))
   | exact ih0 _ _
   | exact impl_ValidSyllables.mono _ _
   | exact LeO.none _
   | refine LeO.ite ?_ ?_
   | refine LeO.bind ?_ (fun _ => ?_)
theorem impl_themeCode.mono : ∀ a0 a1 a2 k, LeO (impl_themeCode.f k a0 a1 a2) (impl_themeCode.f (k + 1) a0 a1 a2) := by
 intro a0 a1 a2 k;have ih0 := impl_themeCode.mono_l k;unfold impl_themeCode.f
 repeat' first
   | (with_reducible exact ih0 _ _)
   | (with_reducible exact impl_ValidSyllables.mono _ _)
   | (with_reducible exact LeO.refl _)
   | (with_reducible exact LeO.none _)
   | (with_reducible refine LeO.ite ?_ ?_)
   | (with_reducible refine LeO.bind ?_ (fun _ => ?_))
   | exact ih0 _ _
   | exact impl_ValidSyllables.mono _ _
   | exact LeO.none _
   | refine LeO.ite ?_ ?_
   | refine LeO.bind ?_ (fun _ => ?_)
set_option maxHeartbeats 8000000 in
set_option maxRecDepth 100000 in
theorem impl_themeCode.calls (k : Nat) (A0 : Option Addr) (c0 : Nat) (l0 : List (S93)) (A1 : Option Addr) (c1 : Nat) (l1 : List Int) (a2 : Int) (r : Int) (w : World) (hr0 : Kd.C k93 w A0 l0.length l0) (hc0 : l0.length ≤ c0) (hr1 : Kd.C (Kd.int .i64) w A1 l1.length l1) (hc1 : l1.length ≤ c1) (h : impl_themeCode.f k l0 l1 a2 = some r) :
  Calls Try.prog 49 #[.slice A0 l0.length c0, .slice A1 l1.length c1, .int .i64 a2] w fun e w' => e = .returned (.int .i64 r) ∧ Below w.heap.size w w' := by
 have HR0 := Aside0.mk hr0;have HC0 := Aside0.mk hc0;clear hr0 hc0;have HR1 := Aside0.mk hr1;have HC1 := Aside0.mk hc1;clear hr1 hc1;have HB := Aside0.mk (Below.refl w.heap.size w);have H : ((impl_ValidSyllables.f k l0).bind fun t301 => (if t301 = true then (if (l1.length : Int) < 1 then (impl_themeCode.j0 k a2 true) else (if (l1.length : Int) > 32 then (impl_themeCode.j0 k a2 true) else ((impl_composedOk.f l0 l1).bind fun t302 => (impl_themeCode.j0 k a2 (!t302))))) else (some 1))) = some r := h;clear h;replace H := Option.bind_eq_some_iff.mp H;obtain ⟨t301, A40, H⟩ := H;replace H : (if t301 = true then (if (l1.length : Int) < 1 then (impl_themeCode.j0 k a2 true) else (if (l1.length : Int) > 32 then (impl_themeCode.j0 k a2 true) else ((impl_composedOk.f l0 l1).bind fun t302 => (impl_themeCode.j0 k a2 (!t302))))) else (some 1)) = some r := H;have A4 := Aside0.mk A40;clear A40;by_cases c5 : t301 = true;rotate_left
 ·replace c5 := Bool.eq_false_iff.mpr c5
  subst c5
  have H1 : (some 1) = some r := by rw [if_neg (show ¬ (false = true) by decide)] at H; exact H
  clear H;have H := H1;clear H1;obtain rfl := Option.some.inj H;go_enter Try.func49, Try.ntmps49;go_wp2_with (first | ((with_reducible refine gate_callee (f := 94) rfl ?_); refine goesL_ (some 9) rfl rfl Try.func94 (by kernel_rfl) rfl #[.slice A0 l0.length c0] rfl (by (try simp only [List.map_toArray, List.map]); try rfl) ?_; (with_reducible refine (impl_ValidSyllables.calls k _ _ l0 false _ ?side1 ?side2 A4.out).mono ?_); (case side1 => exact HR0.out); (case side2 => exact HC0.out); rintro e w15 ⟨rfl, hb⟩; refine ⟨_, rfl, ?_⟩; have n0_ := Aside0.mk (below_step (by repeat (first | exact HB.out | apply below_alloc | apply pw_below_drewN | apply below_drew1)) hb); clear HB; have HB := n0_; clear n0_; (try clear hb); (try clear hb2); (try clear hk); (try clear hi)));go_ret;exact ⟨by first | rfl | (simp [errW_none, errW_some] <;> rfl) | (simp [*, errW_none, errW_some] <;> rfl), by repeat (first | exact HB.out | apply below_alloc | apply pw_below_drewN | apply below_drew1)⟩
 subst c5
 have H1 : (if (l1.length : Int) < 1 then (impl_themeCode.j0 k a2 true) else (if (l1.length : Int) > 32 then (impl_themeCode.j0 k a2 true) else ((impl_composedOk.f l0 l1).bind fun t302 => (impl_themeCode.j0 k a2 (!t302))))) = some r := by rw [if_pos rfl] at H; exact H
 clear H;have H := H1;clear H1;have HC6 := Aside0.mk H;clear H;go_enter Try.func49, Try.ntmps49
 go_upto_region 3 with (first | ((with_reducible refine gate_callee (f := 94) rfl ?_); refine goesL_ (some 9) rfl rfl Try.func94 (by kernel_rfl) rfl #[.slice A0 l0.length c0] rfl (by (try simp only [List.map_toArray, List.map]); try rfl) ?_; (with_reducible refine (impl_ValidSyllables.calls k _ _ l0 true _ ?side1 ?side2 A4.out).mono ?_); (case side1 => exact HR0.out); (case side2 => exact HC0.out); rintro e w7 ⟨rfl, hb⟩; refine ⟨_, rfl, ?_⟩; have n0_ := Aside0.mk (below_step (by repeat (first | exact HB.out | apply below_alloc | apply pw_below_drewN | apply below_drew1)) hb); clear HB; have HB := n0_; clear n0_; (try clear hb); (try clear hb2); (try clear hk); (try clear hi)))
 (try simp only [Act.put, s0_, s1_, s2_]);go_cut [11] (fun v11 wc => ∃ (kq : Nat) (x11_5 : Bool), v11 = .bool x11_5 ∧ Aside0 (impl_themeCode.j0 kq a2 x11_5 = some r) ∧ Aside0 (kq ≤ k) ∧ Aside0 (Below w.heap.size w wc))
 case first =>
  have H := HC6.out;clear HC6;by_cases c8 : (l1.length : Int) < 1;rotate_left
  ·rw [if_neg c8] at H
   have c8b0 : decide ((l1.length : Int) < 1) = false := decide_eq_false c8;have c8b1 : decide (l1.length < 1) = false := decide_eq_false (by omega);clear c8;(first | rw [c8b0] | (simp only [i64_w, i32_w]; rw [c8b0]) | skip);by_cases c9 : (l1.length : Int) > 32;rotate_left
   ·rw [if_neg c9] at H
    have c9b0 : decide (32 < (l1.length : Int)) = false := decide_eq_false c9;have c9b1 : decide (32 < l1.length) = false := decide_eq_false (by omega);clear c9;replace H := Option.bind_eq_some_iff.mp H;obtain ⟨t302, A100, H⟩ := H;replace H : (impl_themeCode.j0 k a2 (!t302)) = some r := H;have A10 := Aside0.mk A100;clear A100;have H' := Aside0.mk H;clear H;go_wp2_with (first | (go_at_call 53; (with_reducible refine (impl_composedOk.calls _ _ l0 _ _ l1 t302 _ ?side1 ?side2 ?side3 ?side4 A10.out).mono ?_); (case side1 => exact (Kd.C_below HR0.out HB.out)); (case side2 => exact HC0.out); (case side3 => exact (Kd.C_below HR1.out HB.out)); (case side4 => exact HC1.out); rintro e w11 ⟨rfl, hb⟩; have n0_ := Aside0.mk (below_step (by repeat (first | exact HB.out | apply below_alloc | apply pw_below_drewN | apply below_drew1)) hb); clear HB; have HB := n0_; clear n0_; (try clear hb); (try clear hb2); (try clear hk); (try clear hi)));go_meet
    case rel => exact ⟨_, (!t302), (by first | rfl | (simp; done) | (simp [*]; done)), H', ⟨by first | omega | exact Nat.le_refl _⟩, ⟨by repeat (first | exact HB.out | apply below_alloc | apply pw_below_drewN | apply below_drew1)⟩⟩
   rw [if_pos c9] at H;have c9b0 : decide (32 < (l1.length : Int)) = true := decide_eq_true c9;have c9b1 : decide (32 < l1.length) = true := decide_eq_true (by omega);clear c9;have H' := Aside0.mk H;clear H;go_wp2;go_meet
   case rel => exact ⟨_, (true), (by first | rfl | (simp; done) | (simp [*]; done)), H', ⟨by first | omega | exact Nat.le_refl _⟩, ⟨by repeat (first | exact HB.out | apply below_alloc | apply pw_below_drewN | apply below_drew1)⟩⟩
  rw [if_pos c8] at H;have c8b0 : decide ((l1.length : Int) < 1) = true := decide_eq_true c8;have c8b1 : decide (l1.length < 1) = true := decide_eq_true (by omega);clear c8;(first | rw [c8b0] | (simp only [i64_w, i32_w]; rw [c8b0]) | skip);have H' := Aside0.mk H;clear H;go_wp2;go_meet
  case rel => exact ⟨_, (true), (by first | rfl | (simp; done) | (simp [*]; done)), H', ⟨by first | omega | exact Nat.le_refl _⟩, ⟨by repeat (first | exact HB.out | apply below_alloc | apply pw_below_drewN | apply below_drew1)⟩⟩
 case rest =>
  clear HC6;(try clear c1);(try clear p2);(try clear c4);(try clear c5);(try clear c8);(try clear c8b0);(try clear c8b1);(try clear c9);(try clear c9b0);(try clear c9b1);obtain ⟨kq, x11_5, rfl, HA, HJ5, HB⟩ := hcut
  cases kq with
  | zero => exact absurd HA.out (by simp [impl_themeCode.j0])
  | succ kj5 =>
   have H := HA.out;clear HA;simp only [impl_themeCode.j0] at H;by_cases c12 : x11_5 = true;rotate_left
   ·replace c12 := Bool.eq_false_iff.mpr c12
    subst c12
    have H1 : ((impl_within.f a2 1 32).bind fun t303 => (if t303 = true then (some 0) else (some 2))) = some r := by rw [if_neg (show ¬ (false = true) by decide)] at H; exact H
    clear H;have H := H1;clear H1;replace H := Option.bind_eq_some_iff.mp H;obtain ⟨t303, A130, H⟩ := H;replace H : (if t303 = true then (some 0) else (some 2)) = some r := H;have A13 := Aside0.mk A130;clear A130;by_cases c14 : t303 = true;rotate_left
    ·replace c14 := Bool.eq_false_iff.mpr c14
     subst c14
     have H1 : (some 2) = some r := by rw [if_neg (show ¬ (false = true) by decide)] at H; exact H
     clear H;have H := H1;clear H1;obtain rfl := Option.some.inj H;go_wp2_with (first | ((with_reducible refine gate_callee (f := 95) rfl ?_); refine goesL_ (some 28) rfl rfl Try.func95 (by kernel_rfl) rfl #[.int .i64 a2, .int .i64 1, .int .i64 32] rfl (by (try simp only [List.map_toArray, List.map]); try rfl) ?_; (with_reducible refine (impl_within.calls a2 1 32 false _ A13.out).mono ?_); rintro e w' ⟨rfl, ⟨nd, rfl⟩⟩; refine ⟨_, rfl, ?_⟩));go_ret;exact ⟨by first | rfl | (simp [errW_none, errW_some] <;> rfl) | (simp [*, errW_none, errW_some] <;> rfl), by repeat (first | exact HB.out | apply below_alloc | apply pw_below_drewN | apply below_drew1)⟩
    subst c14
    have H1 : (some 0) = some r := by rw [if_pos rfl] at H; exact H
    clear H;have H := H1;clear H1;obtain rfl := Option.some.inj H;go_wp2_with (first | ((with_reducible refine gate_callee (f := 95) rfl ?_); refine goesL_ (some 28) rfl rfl Try.func95 (by kernel_rfl) rfl #[.int .i64 a2, .int .i64 1, .int .i64 32] rfl (by (try simp only [List.map_toArray, List.map]); try rfl) ?_; (with_reducible refine (impl_within.calls a2 1 32 true _ A13.out).mono ?_); rintro e w' ⟨rfl, ⟨nd, rfl⟩⟩; refine ⟨_, rfl, ?_⟩));go_ret;exact ⟨by first | rfl | (simp [errW_none, errW_some] <;> rfl) | (simp [*, errW_none, errW_some] <;> rfl), by repeat (first | exact HB.out | apply below_alloc | apply pw_below_drewN | apply below_drew1)⟩
   subst c12
   have H1 : (some 7) = some r := by rw [if_pos rfl] at H; exact H
   clear H;have H := H1;clear H1;obtain rfl := Option.some.inj H;go_wp2;go_ret;exact ⟨by first | rfl | (simp [errW_none, errW_some] <;> rfl) | (simp [*, errW_none, errW_some] <;> rfl), by repeat (first | exact HB.out | apply below_alloc | apply pw_below_drewN | apply below_drew1)⟩

/-! ### slices_Clone_int64_int64: function 50, by hand -/
theorem clone_eqi (A : Option Addr) (d n c : Nat) (w : World) : (Op.equalIn (d + 1) 25 (.slice A n c) (.slice none 0 0)).run Try.prog w = .ok A.isNone w := by
 cases A <;> simp [Op.equalIn, run_underlying Try.underlying25]
theorem clone_nil (n c : Nat) (w : World) : Sem.run Try.prog (binOp .eql 25 (.slice none n c) (.slice none 0 0)) w = .ok (.bool true) w := by
 simp only [binOp]; simp [Op.equal, Op.maxDepth, clone_eqi none 9999 n c w]
theorem clone_some (a : Addr) (n c : Nat) (w : World) : Sem.run Try.prog (binOp .eql 25 (.slice (some a) n c) (.slice none 0 0)) w = .ok (.bool false) w := by
 simp only [binOp]; simp [Op.equal, Op.maxDepth, clone_eqi (some a) 9999 n c w]
attribute [local go_sem] clone_nil clone_some
def slices_Clone_int64_int64.f (l0 : List Int) : Option (List Int) := if l0.length < 17592186044416 then some l0 else none
set_option maxHeartbeats 8000000 in
set_option maxRecDepth 100000 in
theorem slices_Clone_int64_int64.calls (A0 : Option Addr) (c0 : Nat) (l0 : List Int) (r : List Int) (w : World) (hr0 : Kd.C (Kd.int .i64) w A0 l0.length l0) (hc0 : l0.length ≤ c0) (h : slices_Clone_int64_int64.f l0 = some r) :
  Calls Try.prog 50 #[.slice A0 l0.length c0] w fun e w' => ∃ v0_ : Value, e = .returned (v0_) ∧ Kd.R (Kd.int .i64) 2 w' w.heap.size (fun _ => True) v0_ r ∧ Below w.heap.size w w' := by
 have HR0 := Aside0.mk hr0;have HC0 := Aside0.mk hc0;clear hc0;have HB := Aside0.mk (Below.refl w.heap.size w);have H : (if l0.length < 17592186044416 then some l0 else none) = some r := h;clear h;have hu := Try.underlying25;by_cases c2 : l0.length < 17592186044416;rotate_left
 ·rw [if_neg c2] at H
  exact absurd H (by simp)
 rw [if_pos c2] at H;obtain rfl := Option.some.inj H
 cases A0 with
 | none =>
  obtain rfl : l0 = [] := by
   cases l0 with
   | nil => rfl
   | cons x l => obtain ⟨_, _, h3⟩ := hr0; obtain ⟨_, h4, _⟩ := h3 (by simp); cases h4
  clear hr0;go_enter Try.func50, Try.ntmps50;go_wp2;go_ret
  exact ⟨_, rfl, Kd.R_nil _ _ _ _ _, by repeat (first | exact HB.out | apply below_alloc | apply pw_below_drewN | apply below_drew1)⟩
 | some ad =>
  clear hr0;obtain ⟨y208, hy208⟩ : ∃ y_ : List Int, y_ = (([] : List Int)) := ⟨_, rfl⟩;have Ny208 := Aside0.mk hy208;clear hy208;obtain ⟨y211, hy211⟩ : ∃ y_ : List Int, y_ = (y208 ++ l0) := ⟨_, rfl⟩;have Ny211 := Aside0.mk hy211;clear hy211;have LMc2 : Aside0 (y208.length + l0.length < 17592186044416) := ⟨by rw [Ny208.out]; simpa using c2⟩
  have E : y211 = l0 := by rw [Ny211.out, Ny208.out]; rfl
  clear c2;go_enter Try.func50, Try.ntmps50;go_wp2_with (first | ((with_reducible refine gate_dst (N := 5) rfl ?_); refine Kd.R_lit (Kd.int .i64) _ 2 ?hg (N := 5) ?hd (xs := ([] : List Int)) (inner := []) (ok := fun _ => True) (okp := fun _ => True) ?hr ?hp (fun _ hk => hk) trivial (Below.refl _ _) (Nat.le_refl _) (by simp) ?_; (case hd => rfl); (case hg => rfl); (case hr => first | (go_simp; done) | (go_simp; rfl)); (case hp => exact (Reps.none _ _)); intro v209 w3 ho4 hb hg_ hnew_; clear hg_ hnew_; (first | rw [← Ny208.out] at ho4 | (simp only [Int.reduceToNat] at ho4; rw [← Ny208.out] at ho4)); have n0_ := Aside0.mk (Kd.R_lower ho4 (below_size (by repeat (first | exact HB.out | apply below_alloc | apply pw_below_drewN | apply below_drew1)))); have n1_ := Aside0.mk (below_step (by repeat (first | exact HB.out | apply below_alloc | apply pw_below_drewN | apply below_drew1)) hb); clear HB; have HO210 := n0_; have HB := n1_; clear n0_ n1_; clear hb ho4) | ((with_reducible refine gate_builtin (b := .append) (xs := #[.tmp 5, .tmp 6]) rfl ?_); at_builtin; refine Kd.R_append_rows (Kd.int .i64) (w0 := w) w.heap.size rfl (.tmp 5) (.tmp 6) 25 2 (.int .i64 0) 8 rfl Try.underlying25 info2 rfl (by decide) (by omega) v209 y208 l0 _ _ _ (fun _ => True) (fun _ => False) rfl rfl ?aO ?aR (fun _ _ h => h) (fun _ h => h.elim) ?aF ?aB ?aS ?aL ?_; (case aR => exact (Kd.C_below HR0.out HB.out)); (case aB => exact (by repeat (first | exact HB.out | apply below_alloc | apply pw_below_drewN | apply below_drew1))); (case aF => exact (fun _ _ => trivial)); (case aO => exact (by exact HO210.out)); (case aS => exact (below_size (by repeat (first | exact HB.out | apply below_alloc | apply pw_below_drewN | apply below_drew1)))); (case aL => have := LMc2.out; omega); intro v212 w5 ho hb hg hat; rw [← Ny211.out] at ho; have n0_ := Aside0.mk (hb); have n1_ := Aside0.mk (ho); clear HB; clear HO210; have HB := n0_; have HO213 := n1_; clear n0_ n1_; clear ho hb hg hat))
  go_ret;exact ⟨_, rfl, by exact E ▸ HO213.out, by repeat (first | exact HB.out | apply below_alloc | apply pw_below_drewN | apply below_drew1)⟩

/-! ### slices_Reverse_int64_int64: function 51 -/
def slices_Reverse_int64_int64.l0 : Nat → List Int → Int → Int → Option (List Int)
 | 0, _, _, _ => none
 | k + 1, x0, x2, x3 => if x2 < x3 then (if 0 ≤ x3 then (if x3 < (x0.length : Int) then (if 0 ≤ x2 then (if x2 < (x0.length : Int) then (slices_Reverse_int64_int64.l0 k ((x0.set (x2 : Int).toNat (rd x0 x3)).set (x3 : Int).toNat (rd x0 x2)) (wrap64 (x2 + 1)) (wrap64 (x3 - 1))) else (none)) else (none)) else (none)) else (none)) else (some x0)
def slices_Reverse_int64_int64.f (k : Nat) (l0 : List Int) : Option (List Int) := slices_Reverse_int64_int64.l0 k l0 0 (wrap64 ((l0.length : Int) - 1))
theorem slices_Reverse_int64_int64.mono_l : ∀ k, (∀ y0 y1 y2, LeO (slices_Reverse_int64_int64.l0 k y0 y1 y2) (slices_Reverse_int64_int64.l0 (k + 1) y0 y1 y2))
 | 0 => fun _ _ _ r h => by simp [slices_Reverse_int64_int64.l0] at h
 | k + 1 => by
  have ih0 := slices_Reverse_int64_int64.mono_l k
  ·intro y0 y1 y2
   unfold slices_Reverse_int64_int64.l0
   repeat' first
   | (with_reducible exact ih0 _ _ _)
   | (with_reducible exact LeO.refl _)
   | (with_reducible exact LeO.none _)
   | (with_reducible refine LeO.ite ?_ ?_)
   | (with_reducible refine LeO.bind ?_ (fun _ => ?_))
   | exact ih0 _ _ _
   | exact LeO.none _
   | refine LeO.ite ?_ ?_
   | refine LeO.bind ?_ (fun _ => ?_)
theorem slices_Reverse_int64_int64.mono : ∀ a0 k, LeO (slices_Reverse_int64_int64.f k a0) (slices_Reverse_int64_int64.f (k + 1) a0) := by
 intro a0 k;have ih0 := slices_Reverse_int64_int64.mono_l k;unfold slices_Reverse_int64_int64.f
 repeat' first
   | (with_reducible exact ih0 _ _ _)
   | (with_reducible exact LeO.refl _)
   | (with_reducible exact LeO.none _)
   | (with_reducible refine LeO.ite ?_ ?_)
   | (with_reducible refine LeO.bind ?_ (fun _ => ?_))
   | exact ih0 _ _ _
   | exact LeO.none _
   | refine LeO.ite ?_ ?_
   | refine LeO.bind ?_ (fun _ => ?_)
def slices_Reverse_int64_int64.T3 : Bool × List (List Nat × List Nat) := (true, [([], []), ([], []), ([], []), ([], []), ([], []), ([], []), ([4, 5], [4, 5]), ([6], [6]), ([], []), ([], []), ([8, 9], [8, 9]), ([10], [10]), ([0, 1, 0, 1, 4, 5, 6, 7, 11], [0, 1]), ([12, 7, 0, 1, 4, 5, 6, 7, 11], [7, 12]), ([2, 3, 0, 1, 2, 3, 4, 5, 6, 7, 8, 9, 10, 11, 12, 13], [2, 3]), ([14, 11, 13, 0, 1, 2, 3, 4, 5, 6, 7, 8, 9, 10, 11, 12, 13], [11, 14])])
def slices_Reverse_int64_int64.B3 : List Nat := [0, 0, 0, 0, 0, 0, 48, 112, 0, 0, 768, 1792, 4083, 8179, 16383, 32767]
theorem slices_Reverse_int64_int64.tab3 : rtab .any (opsOf Try.f51 3) = slices_Reverse_int64_int64.T3 := by kernel_rfl
theorem slices_Reverse_int64_int64.bits3 : waitsOk slices_Reverse_int64_int64.T3.2 slices_Reverse_int64_int64.B3 = true := by kernel_rfl
set_option maxHeartbeats 8000000 in
set_option maxRecDepth 100000 in
theorem slices_Reverse_int64_int64.calls (k : Nat) (P0_ : Nat → Prop) (u9000_ : Value) (l0 : List Int) (r : List Int) (w0 w : World) (hB : Below w0.heap.size w0 w) (ho0 : Kd.R (Kd.int .i64) 2 w w0.heap.size P0_ u9000_ l0) (h : slices_Reverse_int64_int64.f k l0 = some r) :
  Calls Try.prog 51 #[u9000_] w fun e w' => e = .returned (.tuple #[]) ∧ Kd.R (Kd.int .i64) 2 w' w0.heap.size (fun k_ => (P0_ k_ ∨ w.heap.size ≤ k_)) u9000_ r ∧ Below w0.heap.size w0 w' ∧ Kept w w' (fun k_ => P0_ k_) := by
 have HO0 := Aside0.mk (show Kd.R (Kd.int .i64) 2 w w0.heap.size (fun k_ => (P0_ k_ ∨ w.heap.size ≤ k_)) u9000_ l0 from Kd.R_mono ho0 (fun k_ hk => (.inl hk)));have HK := Aside0.mk (Kept.refl w (fun k_ => P0_ k_));have HW0 := Aside0.mk hB.size;have HB := Aside0.mk hB;clear hB;have H : (slices_Reverse_int64_int64.l0 k l0 0 (wrap64 ((l0.length : Int) - 1))) = some r := h;clear h;have H' := Aside0.mk H;clear H;obtain ⟨Ao2, co2, eo2⟩ := Kd.R_slice HO0.out;subst eo2;go_enter Try.func51, Try.ntmps51;go_wp2;go_loopg [2, 3] k (fun kq v2 v3 w' => ∃ (x0_1 : List Int) (x2_1 : Int) (x3_1 : Int), v2 = .int .i64 x2_1 ∧ v3 = .int .i64 x3_1 ∧ Aside0 (slices_Reverse_int64_int64.l0 kq x0_1 x2_1 x3_1 = some r) ∧ Aside0 (kq ≤ k) ∧ Aside0 (Kd.R (Kd.int .i64) 2 w' w0.heap.size (fun k_ => (P0_ k_ ∨ w.heap.size ≤ k_)) (.slice Ao2 l0.length co2) x0_1) ∧ Aside0 (Kept w w' (fun k_ => P0_ k_)) ∧ Aside0 (Below w0.heap.size w0 w'))
 case atStart => exact ⟨(l0), (0), (wrap64 ((l0.length : Int) - 1)), (by first | rfl | (simp; done) | (simp [*]; done)), (by first | rfl | (simp; done) | (simp [*]; done)), H', ⟨Nat.le_refl _⟩, ⟨by exact HO0.out⟩, ⟨by repeat (first | exact HK.out | apply Kept.alloc | apply Kept.drewN | apply Kept.drew)⟩, ⟨by repeat (first | exact HB.out | apply below_alloc | apply pw_below_drewN | apply below_drew1)⟩⟩
 case round =>
  clear H';(try clear p2);obtain ⟨x0_1, x2_1, x3_1, rfl, rfl, HA, HK1, HO_0, HK, HB⟩ := hrel;have hl0_1 := (Kd.R_reads' HO_0.out).1;rw [hl0_1] at HO_0;(try simp only [hl0_1])
  cases gk with
  | zero => exact absurd HA.out (by simp [slices_Reverse_int64_int64.l0])
  | succ k1 =>
   have H := HA.out;clear HA;simp only [slices_Reverse_int64_int64.l0] at H;by_cases c3 : x2_1 < x3_1;rotate_left
   ·rw [if_neg c3] at H
    have c3b0 : decide (x2_1 < x3_1) = false := decide_eq_false c3;clear c3;obtain rfl := Option.some.inj H;go_wp2;(first | go_end0 | ((try simp only [Exit.inBlock, Exit.then]); refine bodyPost_ret (results_none rfl _ _ _) rfl ?_));exact ⟨by first | rfl | (simp [errW_none, errW_some] <;> rfl) | (simp [*, errW_none, errW_some] <;> rfl), (by first | exact (by exact HO_0.out) | (simp only [hl0_1]; exact (by exact HO_0.out))), by repeat (first | exact HB.out | apply below_alloc | apply pw_below_drewN | apply below_drew1), by repeat (first | exact HK.out | apply Kept.alloc | apply Kept.drewN | apply Kept.drew)⟩
   rw [if_pos c3] at H;have c3b0 : decide (x2_1 < x3_1) = true := decide_eq_true c3;clear c3;by_cases c4 : 0 ≤ x3_1;rotate_left
   ·rw [if_neg c4] at H
    exact absurd H (by simp)
   rw [if_pos c4] at H;have c4b0 : decide (0 ≤ x3_1) = true := decide_eq_true c4;clear c4;by_cases c5 : x3_1 < (x0_1.length : Int);rotate_left
   ·rw [if_neg c5] at H
    exact absurd H (by simp)
   rw [if_pos c5] at H;have c5b0 : decide (x3_1 < (x0_1.length : Int)) = true := decide_eq_true c5;clear c5;by_cases c6 : 0 ≤ x2_1;rotate_left
   ·rw [if_neg c6] at H
    exact absurd H (by simp)
   rw [if_pos c6] at H;have c6b0 : decide (0 ≤ x2_1) = true := decide_eq_true c6;clear c6;by_cases c7 : x2_1 < (x0_1.length : Int);rotate_left
   ·rw [if_neg c7] at H
    exact absurd H (by simp)
   rw [if_pos c7] at H;have c7b0 : decide (x2_1 < (x0_1.length : Int)) = true := decide_eq_true c7;clear c7;obtain ⟨y306, hy306⟩ : ∃ y_ : List Int, y_ = (x0_1.set (x2_1 : Int).toNat (rd x0_1 x3_1)) := ⟨_, rfl⟩
   replace H : (slices_Reverse_int64_int64.l0 k1 (y306.set (x3_1 : Int).toNat (rd x0_1 x2_1)) (wrap64 (x2_1 + 1)) (wrap64 (x3_1 - 1))) = some r := by first | (rw [hy306]; with_reducible exact H) | (have H2_ := (Option.bind_some _ _).symm.trans H; rw [hy306]; with_reducible exact H2_) | (have H2_ := (Option.bind_some _ _).symm.trans H; with_reducible exact H2_) | with_reducible exact H | (rw [hy306]; exact H) | exact H
   have Ny306 := Aside0.mk hy306;clear hy306;obtain ⟨y307, hy307⟩ : ∃ y_ : List Int, y_ = (y306.set (x3_1 : Int).toNat (rd x0_1 x2_1)) := ⟨_, rfl⟩
   replace H : (slices_Reverse_int64_int64.l0 k1 y307 (wrap64 (x2_1 + 1)) (wrap64 (x3_1 - 1))) = some r := by first | (rw [hy307]; with_reducible exact H) | (have H2_ := (Option.bind_some _ _).symm.trans H; rw [hy307]; with_reducible exact H2_) | (have H2_ := (Option.bind_some _ _).symm.trans H; with_reducible exact H2_) | with_reducible exact H | (rw [hy307]; exact H) | exact H
   have Ny307 := Aside0.mk hy307;clear hy307;have H' := Aside0.mk H;clear H;(try go_wp2);have n0_ := Aside0.mk (Kd.R_drew HO_0.out);have n1_ := Aside0.mk (Kept.drew HK.out);have n2_ := Aside0.mk (below_drew1 HB.out);clear HO_0;clear HK;clear HB;have HO_0 := n0_;have HK := n1_;have HB := n2_;clear n0_ n1_ n2_;have p304 : 0 ≤ (x3_1 : Int) := of_decide_eq_true (by assumption);have q304 : x3_1 < (x0_1.length : Int) := of_decide_eq_true (by assumption);obtain ⟨ad304, e304, hx304_0⟩ := Kd.at_int (Kd.R_reads' HO_0.out).2.2 x3_1 p304 q304
   cases e304
   replace p304 := eq_true p304;replace q304 := eq_true q304;have p305 : 0 ≤ (x2_1 : Int) := of_decide_eq_true (by assumption);have q305 : x2_1 < (x0_1.length : Int) := of_decide_eq_true (by assumption);obtain ⟨ad305, e305, hx305_0⟩ := Kd.at_int (Kd.R_reads' HO_0.out).2.2 x2_1 p305 q305;obtain rfl : ad304 = ad305 := (by injection e305);replace p305 := eq_true p305;replace q305 := eq_true q305;have p8 : 0 ≤ (x2_1 : Int) := of_decide_eq_true (by assumption);have q8 : (x2_1 : Int) < ((x0_1.length : Int) : Int) := of_decide_eq_true (by assumption);obtain ⟨go8, co8, eo8, gb8, gl8, cl8, HG8⟩ := Kd.R_form HO_0.out (by omega);(first | cases eo8 | (injection eo8 with ea_ en_ ec_; (first | subst ea_ | (injection ea_ with ea_; subst ea_)); subst ec_; clear en_));have GB8 := Aside0.mk gb8;have GG8 := Aside0.mk HG8;clear gb8 gl8 HG8;have HMgo8 := Aside0.mk (show (P0_ go8 ∨ w.heap.size ≤ go8) from (HO_0.out.1 _ rfl));(first | simp only [add_plain] at hx304_0 | skip);(first | simp only [add_plain] at hx305_0 | skip);obtain ⟨hx8_0, hf8_0⟩ := Kd.R_celln 0 HO_0.out (x2_1 : Int) p8 q8;replace p8 := eq_true p8;replace q8 := eq_true q8;have HP11 := Kd.R_putn HO_0.out (x2_1 : Int) (rd x0_1 x3_1);rw [← Ny306.out] at HP11;have HQ11 := Aside0.mk HP11;clear HP11;have p9 : 0 ≤ (x3_1 : Int) := of_decide_eq_true (by assumption);have q9 : (x3_1 : Int) < ((x0_1.length : Int) : Int) := of_decide_eq_true (by assumption);obtain ⟨hx9_0, hf9_0⟩ := Kd.R_celln 0 HQ11.out (x3_1 : Int) p9 q9;replace p9 := eq_true p9;replace q9 := eq_true q9;have HP12 := Kd.R_putn HQ11.out (x3_1 : Int) (rd x0_1 x2_1)
   rw [← Ny307.out] at HP12;have HQ12 := Aside0.mk HP12;clear HP12;refine start_ (n := 16) (S := fun w' => w'.cell? ⟨go8, (x3_1).toNat, none⟩ = some (.int .i64 (rd x0_1 x3_1)) ∧ w'.cell? ⟨go8, (x2_1).toNat, none⟩ = some (.int .i64 (rd x0_1 x2_1))) (ds := [13, 15]) bz5_0 (by kernel_rfl) rfl rfl ⟨hx304_0, hx305_0⟩ (fun hHeld => ?_); refine with_tabW slices_Reverse_int64_int64.tab3 slices_Reverse_int64_int64.bits3 (fun HT_ HW_ => ?_);generalize wr.drew = w10 at HO_0 HK HB GG8 HQ11 HQ12 hf8_0 hf9_0 hx304_0 hx305_0 hx8_0 hx9_0 hHeld ⊢;refine val_ (v := ?_) (a' := ?_) 0 14 bz5_1 rfl rfl HT_.out (by kernel_rfl) (by rfl) (fun _ _ _ h => h) ?_ ?_ ?_;rotate_left;(intro w';go_simp;(with_reducible rfl));rotate_left;(simp only [Act.put, s0_, s1_, s2_, i64_w, i32_w];rfl);refine val_ (v := ?_) (a' := ?_) 1 15 bz5_2 rfl rfl HT_.out (by kernel_rfl) (by rfl) (fun _ _ _ h => h) ?_ ?_ ?_;rotate_left;(intro w';go_simp;(with_reducible rfl));rotate_left;(simp only [Act.put, s0_, s1_, s2_, i64_w, i32_w];rfl);refine val_ (v := ?_) (a' := ?_) 2 16 bz5_3 rfl rfl HT_.out (by kernel_rfl) (by rfl) (fun _ _ _ h => h) ?_ ?_ ?_;rotate_left;(intro w';go_simp;(with_reducible rfl));rotate_left;(simp only [Act.put, s0_, s1_, s2_, i64_w, i32_w];rfl);refine val_ (v := ?_) (a' := ?_) 3 17 bz5_4 rfl rfl HT_.out (by kernel_rfl) (by rfl) (fun _ _ _ h => h) ?_ ?_ ?_;rotate_left;(intro w';go_simp;(with_reducible rfl));rotate_left;(simp only [Act.put, s0_, s1_, s2_, i64_w, i32_w];rfl);refine val_ (v := ?_) (a' := ?_) 4 18 bz5_5 rfl rfl HT_.out (by kernel_rfl) (by rfl) (fun _ _ _ h => h) ?_ ?_ ?_
   rotate_left;(intro w';go_simp;(with_reducible rfl));rotate_left;(simp only [Act.put, s0_, s1_, s2_, i64_w, i32_w];rfl);refine val_ (v := ?_) (a' := ?_) 5 19 bz5_6 rfl rfl HT_.out (by kernel_rfl) (by rfl) (fun _ _ _ h => h) ?_ ?_ ?_;rotate_left;(intro w';go_simp;(with_reducible rfl));rotate_left;(simp only [Act.put, s0_, s1_, s2_, i64_w, i32_w];rfl);refine val_ (v := ?_) (a' := ?_) 6 20 bz5_7 rfl rfl HT_.out (by kernel_rfl) (by rfl) (fun _ _ _ h => h) ?_ ?_ ?_;rotate_left;(intro w';go_simp;(with_reducible rfl));rotate_left;(simp only [Act.put, s0_, s1_, s2_, i64_w, i32_w];rfl);refine val_ (v := ?_) (a' := ?_) 8 22 bz5_8 rfl rfl HT_.out (by kernel_rfl) (by rfl) (fun _ _ _ h => h) ?_ ?_ ?_;rotate_left;(intro w';go_simp;(with_reducible rfl));rotate_left;(simp only [Act.put, s0_, s1_, s2_, i64_w, i32_w];rfl);refine val_ (v := ?_) (a' := ?_) 9 23 bz5_9 rfl rfl HT_.out (by kernel_rfl) (by rfl) (fun _ _ _ h => h) ?_ ?_ ?_;rotate_left;(intro w';go_simp;(with_reducible rfl));rotate_left;(simp only [Act.put, s0_, s1_, s2_, i64_w, i32_w];rfl);refine val_ (v := ?_) (a' := ?_) 10 24 bz5_10 rfl rfl HT_.out (by kernel_rfl) (by rfl) (fun _ _ _ h => h) ?_ ?_ ?_;rotate_left;(intro w';go_simp;(with_reducible rfl));rotate_left;(simp only [Act.put, s0_, s1_, s2_, i64_w, i32_w];rfl);refine take_ (i := 7) (N := some 21) (v := ?_) (a' := ?_) bz5_11 rfl rfl (take_ofW HT_.out HW_.out (by kernel_rfl)) (fun _ _ _ h => h) (Or.inl ⟨by rfl, ?_⟩) hHeld ?_ ?_;rotate_left
   ·rintro w' ⟨s0, s1⟩
    go_simp;(with_reducible rfl)
   rotate_left
   ·simp only [Act.put, s0_, s1_, s2_, i64_w, i32_w]
    rfl
   refine take_ (i := 11) (N := some 25) (v := ?_) (a' := ?_) bz5_12 rfl rfl (take_ofW HT_.out HW_.out (by kernel_rfl)) (fun _ _ _ h => h) (Or.inl ⟨by rfl, ?_⟩) hHeld ?_ ?_;rotate_left
   ·rintro w' ⟨s0, s1⟩
    go_simp;(with_reducible rfl)
   rotate_left
   ·simp only [Act.put, s0_, s1_, s2_, i64_w, i32_w]
    rfl
   refine val_ (v := ?_) (a' := ?_) 12 26 bz5_13 rfl rfl HT_.out (by kernel_rfl) (by rfl) (fun _ _ _ h => h) ?_ ?_ ?_;rotate_left;(intro w';go_simp;(with_reducible rfl));rotate_left;(simp only [Act.put, s0_, s1_, s2_, i64_w, i32_w];rfl);refine last_ (i := 13) (N := none) bz5_14 rfl rfl (one_of HT_.out (by kernel_rfl)) (by decide) (fun K hK => ?_);refine skip_ (w1 := ?_) (by rfl) rfl ?_ ?_;rotate_left
   ·go_simp
    rfl
   refine hK.out _ _ ?_;clear hK K;refine val_ (v := ?_) (a' := ?_) 14 27 bz5_15 rfl rfl HT_.out (by kernel_rfl) (by rfl) (fun _ _ _ h => h) ?_ ?_ ?_;rotate_left;(intro w';go_simp;(with_reducible rfl));rotate_left;(simp only [Act.put, s0_, s1_, s2_, i64_w, i32_w];rfl);refine last_ (i := 15) (N := none) bz5_16 rfl rfl (one_of HT_.out (by kernel_rfl)) (by decide) (fun K hK => ?_);refine skip_ (w1 := ?_) (by rfl) rfl ?_ ?_;rotate_left
   ·go_simp
    rfl
   refine hK.out _ _ ?_;clear hK K;refine done_ (done_of HT_.out (by kernel_rfl)) ?_;(try go_wp2);(try simp only [← hl0_1]);go_roundg k1
   case measure => have := HK1.out; omega
   case rel => exact ⟨(y307), (wrap64 (x2_1 + 1)), (wrap64 (x3_1 - 1)), (by first | rfl | (simp; done) | (simp [*]; done)), (by first | rfl | (simp; done) | (simp [*]; done)), H', ⟨by have := HK1.out; omega⟩, ⟨by (try simp only [hl0_1]); exact HQ12.out⟩, ⟨by repeat (first | exact HK.out | apply Kept.alloc | apply Kept.drewN | apply Kept.drew | refine Kept.setCell ?_ HMgo8.out _ | refine Kept.setCell ?_ HMgo8.out _)⟩, ⟨by repeat (first | exact HB.out | apply below_alloc | apply pw_below_drewN | apply below_drew1 | refine below_set ?_ GB8.out | refine below_set ?_ GB8.out)⟩⟩

/-! ### impl_ReverseTheme: function 8 -/
def impl_ReverseTheme.f (k : Nat) (l0 : List (S93)) (l1 : List Int) : Option (List Int × Int) := (impl_themeCode.f k l0 l1 1).bind fun t308 => (if t308 = 0 then ((slices_Clone_int64_int64.f l1).bind fun t309 => ((slices_Reverse_int64_int64.f k t309).bind fun t312 => (some (t312, 0)))) else (some (([] : List Int), t308)))
theorem impl_ReverseTheme.mono : ∀ a0 a1 k, LeO (impl_ReverseTheme.f k a0 a1) (impl_ReverseTheme.f (k + 1) a0 a1) := by
 intro a0 a1 k;unfold impl_ReverseTheme.f
 repeat' first
   | (with_reducible exact impl_themeCode.mono _ _ _ _)
   | (with_reducible exact slices_Reverse_int64_int64.mono _ _)
   | (with_reducible exact LeO.refl _)
   | (with_reducible exact LeO.none _)
   | (with_reducible refine LeO.ite ?_ ?_)
   | (with_reducible refine LeO.bind ?_ (fun _ => ?_))
   | exact impl_themeCode.mono _ _ _ _
   | exact slices_Reverse_int64_int64.mono _ _
   | exact LeO.none _
   | refine LeO.ite ?_ ?_
   | refine LeO.bind ?_ (fun _ => ?_)
set_option maxHeartbeats 8000000 in
set_option maxRecDepth 100000 in
theorem impl_ReverseTheme.calls (k : Nat) (A0 : Option Addr) (c0 : Nat) (l0 : List (S93)) (A1 : Option Addr) (c1 : Nat) (l1 : List Int) (r1 : List Int) (r2 : Int) (w : World) (hr0 : Kd.C k93 w A0 l0.length l0) (hc0 : l0.length ≤ c0) (hr1 : Kd.C (Kd.int .i64) w A1 l1.length l1) (hc1 : l1.length ≤ c1) (h : impl_ReverseTheme.f k l0 l1 = some (r1, r2)) :
  Calls Try.prog 8 #[.slice A0 l0.length c0, .slice A1 l1.length c1] w fun e w' => ∃ v0_ : Value, e = .returned (.tuple #[v0_, .int .i64 r2]) ∧ Kd.R (Kd.int .i64) 2 w' w.heap.size (fun _ => True) v0_ r1 ∧ Below w.heap.size w w' := by
 have HR0 := Aside0.mk hr0;have HC0 := Aside0.mk hc0;clear hr0 hc0;have HR1 := Aside0.mk hr1;have HC1 := Aside0.mk hc1;clear hr1 hc1;have HB := Aside0.mk (Below.refl w.heap.size w);have H : ((impl_themeCode.f k l0 l1 1).bind fun t308 => (if t308 = 0 then ((slices_Clone_int64_int64.f l1).bind fun t309 => ((slices_Reverse_int64_int64.f k t309).bind fun t312 => (some (t312, 0)))) else (some (([] : List Int), t308)))) = some (r1, r2) := h;clear h;replace H := Option.bind_eq_some_iff.mp H;obtain ⟨t308, A30, H⟩ := H;replace H : (if t308 = 0 then ((slices_Clone_int64_int64.f l1).bind fun t309 => ((slices_Reverse_int64_int64.f k t309).bind fun t312 => (some (t312, 0)))) else (some (([] : List Int), t308))) = some (r1, r2) := H;have A3 := Aside0.mk A30;clear A30;by_cases c4 : t308 = 0;rotate_left
 ·rw [if_neg c4] at H
  have c4b0 : (t308 == 0) = false := beq_eq_false_iff_ne.mpr c4;have c4b1 : (t308 != 0) = true := bne_iff_ne.mpr c4;simp only [Option.some.injEq, Prod.mk.injEq] at H;obtain ⟨rfl, rfl⟩ := H;go_enter Try.func8, Try.ntmps8;go_wp2_with (first | ((with_reducible refine gate_callee (f := 49) rfl ?_); refine goesL_ (some 10) rfl rfl Try.func49 (by kernel_rfl) rfl #[.slice A0 l0.length c0, .slice A1 l1.length c1, .int .i64 1] rfl (by (try simp only [List.map_toArray, List.map]); try rfl) ?_; (with_reducible refine (impl_themeCode.calls k _ _ l0 _ _ l1 1 t308 _ ?side1 ?side2 ?side3 ?side4 A3.out).mono ?_); (case side1 => exact HR0.out); (case side2 => exact HC0.out); (case side3 => exact HR1.out); (case side4 => exact HC1.out); rintro e w11 ⟨rfl, hb⟩; refine ⟨_, rfl, ?_⟩; have n0_ := Aside0.mk (below_step (by repeat (first | exact HB.out | apply below_alloc | apply pw_below_drewN | apply below_drew1)) hb); clear HB; have HB := n0_; clear n0_; (try clear hb); (try clear hb2); (try clear hk); (try clear hi)));go_ret2;exact ⟨_, by first | rfl | (simp [errW_none, errW_some] <;> rfl) | (simp [*, errW_none, errW_some] <;> rfl), by first | exact Kd.R_nil _ _ _ _ _ | exact Kd.N_nil _ _ _ _ _ | exact Kd.V_nil _ _ _ _ _ | exact Kd.Q_nil _ _ _ _ _ | exact Kd.S_nil _ _ _ _ _, by repeat (first | exact HB.out | apply below_alloc | apply pw_below_drewN | apply below_drew1)⟩
 rw [if_pos c4] at H;have c4b0 : (t308 == 0) = true := beq_iff_eq.mpr c4;have c4b1 : (t308 != 0) = false := bne_eq_false_iff_eq.mpr c4;clear c4;replace H := Option.bind_eq_some_iff.mp H;obtain ⟨t309, A50, H⟩ := H;replace H : ((slices_Reverse_int64_int64.f k t309).bind fun t312 => (some (t312, 0))) = some (r1, r2) := H;have A5 := Aside0.mk A50;clear A50;replace H := Option.bind_eq_some_iff.mp H;obtain ⟨t312, A60, H⟩ := H;replace H : (some (t312, 0)) = some (r1, r2) := H;have A6 := Aside0.mk A60;clear A60;simp only [Option.some.injEq, Prod.mk.injEq] at H;obtain ⟨rfl, rfl⟩ := H;go_enter Try.func8, Try.ntmps8;go_wp2_with (first | ((with_reducible refine gate_callee (f := 49) rfl ?_); refine goesL_ (some 10) rfl rfl Try.func49 (by kernel_rfl) rfl #[.slice A0 l0.length c0, .slice A1 l1.length c1, .int .i64 1] rfl (by (try simp only [List.map_toArray, List.map]); try rfl) ?_; (with_reducible refine (impl_themeCode.calls k _ _ l0 _ _ l1 1 t308 _ ?side1 ?side2 ?side3 ?side4 A3.out).mono ?_); (case side1 => exact HR0.out); (case side2 => exact HC0.out); (case side3 => exact HR1.out); (case side4 => exact HC1.out); rintro e w7 ⟨rfl, hb⟩; refine ⟨_, rfl, ?_⟩; have n0_ := Aside0.mk (below_step (by repeat (first | exact HB.out | apply below_alloc | apply pw_below_drewN | apply below_drew1)) hb); clear HB; have HB := n0_; clear n0_; (try clear hb); (try clear hb2); (try clear hk); (try clear hi)) | ((with_reducible refine gate_callee (f := 50) rfl ?_); refine goesL_ (some 15) rfl rfl Try.func50 (by kernel_rfl) rfl #[.slice A1 l1.length c1] rfl (by (try simp only [List.map_toArray, List.map]); try rfl) ?_; (with_reducible refine (slices_Clone_int64_int64.calls _ _ l1 t309 _ ?side1 ?side2 A5.out).mono ?_); (case side1 => exact (Kd.C_below HR1.out HB.out)); (case side2 => exact HC1.out); rintro e w8 ⟨v310, rfl, ho0, hb⟩; refine ⟨_, rfl, ?_⟩; have n0_ := Aside0.mk (Kd.R_lower ho0 (below_size (by repeat (first | exact HB.out | apply below_alloc | apply pw_below_drewN | apply below_drew1)))); have n1_ := Aside0.mk (below_step (by repeat (first | exact HB.out | apply below_alloc | apply pw_below_drewN | apply below_drew1)) hb); clear HB; have HO311 := n0_; have HB := n1_; clear n0_ n1_; (try clear hb); (try clear hb2); (try clear hk); (try clear hi); (try clear ho0); obtain ⟨Ao9, co9, eo9⟩ := Kd.R_slice HO311.out; subst eo9) | ((with_reducible refine gate_callee (f := 51) rfl ?_); refine goesL_ (some 17) rfl rfl Try.func51 (by kernel_rfl) rfl #[.slice Ao9 t309.length co9] rfl (by (try simp only [List.map_toArray, List.map]); try rfl) ?_; (with_reducible refine (slices_Reverse_int64_int64.calls k (fun k_ => some k_ = (.slice Ao9 t309.length co9 : Value).ownBlock) (.slice Ao9 t309.length co9) t309 t312 w _ ?side1 ?side2 A6.out).mono ?_); (case side1 => repeat (first | exact HB.out | apply below_alloc | apply pw_below_drewN | apply below_drew1)); (case side2 => exact Kd.R_tight rfl HO311.out); rintro e w10 ⟨rfl, hy0, hb, hkp⟩; refine ⟨_, rfl, ?_⟩; have n0_ := Aside0.mk (Kd.R_reok rfl hy0 (fun k_ e_ => HO311.out.1 k_ e_)); have n1_ := Aside0.mk (hb); clear HO311; clear HB; have HO311 := n0_; have HB := n1_; clear n0_ n1_; (try clear hb); (try clear hkp); (try clear hy0)))
 go_ret2;exact ⟨_, by first | rfl | (simp [errW_none, errW_some] <;> rfl) | (simp [*, errW_none, errW_some] <;> rfl), by exact HO311.out, by repeat (first | exact HB.out | apply below_alloc | apply pw_below_drewN | apply below_drew1)⟩

end Go.Proofs.Ytagjleeckbnddaa.PFnThemes
