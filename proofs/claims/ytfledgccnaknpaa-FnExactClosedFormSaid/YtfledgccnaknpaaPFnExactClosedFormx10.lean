-- written by xprint.py, a program of this repo over the kit's print; not trusted: Lean checks it
import Derived.Test.YtfledgccnaknpaaPFnExactClosedFormx0
import Derived.Test.YtfledgccnaknpaaPFnExactClosedFormx7
import Derived.Test.YtfledgccnaknpaaPFnExactClosedFormx9
namespace Go.Proofs.Ytfledgccnaknpaa.PFnExactClosedForm
open Go.RowKit Go.Proofs.YtfledgccnaknpaaW.PrintWords Go.Proofs.YtfledgccnaknpaaW.PrintLast Go.Proofs.YtfledgccnaknpaaW.PrintMore
attribute [local go_sem] max2_int min2_int max_two min_two max_three min_three max_four min_four   -- for this text's walks alone
set_option linter.unusedVariables false
set_option linter.unusedSimpArgs false

open List renaming setIfInBounds_toArray → s0_, set_cons_zero → s1_, set_cons_succ → s2_
/-! ### slices_IndexFunc_int64_int64: function 220, by hand -/
theorem rd_get! (l : List Int) (k : Nat) : rd l (k : Int) = l[k]! := by
 unfold rd
 rw [Int.toNat_natCast, List.getElem!_eq_getElem?_getD, List.getD_eq_getElem?_getD]
 rfl

def idxP (p : Int → Bool) (l : List Int) : Int := if l.any p = true then (l.findIdx p : Int) else -1
theorem idxP_hit (p : Int → Bool) (l : List Int) (k : Nat) (h : k < l.length) (h1 : p l[k]! = true) (h2 : ∀ j, j < k → p l[j]! = false) : idxP p l = k := by
 unfold idxP
 have e : l[k]! = l[k] := by simp [h]
 rw [e] at h1
 rw [if_pos (List.any_eq_true.2 ⟨l[k], List.getElem_mem h, h1⟩)]
 congr 1
 refine (List.findIdx_eq h).2 ⟨h1, fun j hj => ?_⟩
 have := h2 j hj
 rwa [show l[j]! = l[j] by simp [show j < l.length by omega]] at this
theorem idxP_miss (p : Int → Bool) (l : List Int) (h : ∀ j, j < l.length → p l[j]! = false) : idxP p l = -1 := by
 unfold idxP
 rw [if_neg]
 intro h1
 obtain ⟨x, hx, hp⟩ := List.any_eq_true.1 h1
 obtain ⟨j, hj, e⟩ := List.getElem_of_mem hx
 have := h j hj
 rw [show l[j]! = l[j] by simp [hj], e, hp] at this
 cases this
theorem idxP_any (p : Int → Bool) (l : List Int) : decide (0 ≤ idxP p l) = l.any p := by
 unfold idxP
 split
 ·rename_i h; rw [h]; simp
 ·rename_i h; rw [Bool.eq_false_iff.2 h]; rfl

set_option maxHeartbeats 4000000 in
theorem slices_IndexFunc_I.calls (g : Nat) (lb : Array Value) (p : Int → Bool) (eg : ∀ args w, (callFunc g args).run Try.prog w = .ok (.enter g args) w) (A0 : Option Addr) (c0 : Nat) (l0 : List Int) (w : World) (hr0 : Kd.C (Kd.int .i64) w A0 l0.length l0)
  (hp : ∀ (W : World) (x : Int), Below w.heap.size w W → Calls Try.prog g (#[.int .i64 x] ++ lb) W fun e w' => e = .returned (.bool (p x)) ∧ Below w.heap.size w w') :
  Calls Try.prog 220 #[.slice A0 l0.length c0, .func (.func g) #[] lb] w fun e w' => e = .returned (.int .i64 (idxP p l0)) ∧ Below w.heap.size w w' := by
 have hbig := Kd.C_max hr0
 have HR := Aside0.mk hr0
 clear hr0
 have HP := Aside0.mk hp
 clear hp
 go_enter Try.func220, Try.ntmps220
 go_wp2
 go_loopg [5, 8] l0.length (fun gg _ s8 wr => ∃ kk : Nat, kk ≤ l0.length ∧ l0.length - kk ≤ gg ∧ s8 = .int .i64 kk ∧ Aside0 (Below w.heap.size w wr) ∧ Aside0 (∀ j, j < kk → p l0[j]! = false))
 case atStart => exact ⟨0, Nat.zero_le _, by omega, rfl, ⟨Below.refl _ w⟩, ⟨fun j hj => absurd hj (Nat.not_lt_zero _)⟩⟩
 case round =>
  obtain ⟨kk, hkk, hg, rfl, BW, A⟩ := hrel
  by_cases hlt : kk < l0.length
  ·have hltz : (kk : Int) < (l0.length : Int) := by omega
   obtain ⟨ad, e1, hc⟩ := Kd.at_int (Kd.C_below HR.out BW.out) (kk : Int) (by omega) hltz
   cases e1
   rw [rd_get!, Int.toNat_natCast] at hc
   have hcall := HP.out wr l0[kk]! BW.out
   generalize hy : l0[kk]! = y at hc hcall
   have B := Aside0.mk hy
   clear hy
   cases hq : p y with
   | true =>
    rw [hq] at hcall
    have HQ := Aside0.mk hq
    clear hq
    go_wp2_with (fail)
    refine hcall.mono ?_
    rintro e w' ⟨rfl, hb0⟩
    have hb' := Aside0.mk hb0
    clear hb0 hcall hc
    dsimp only
    go_wp2
    go_ret
    refine ⟨?_, hb'.out⟩
    rw [idxP_hit p l0 kk hlt (by rw [B.out]; exact HQ.out) A.out]; rfl
   | false =>
    rw [hq] at hcall
    have HQ := Aside0.mk hq
    clear hq
    go_wp2_with (fail)
    refine hcall.mono ?_
    rintro e w' ⟨rfl, hb0⟩
    have hb' := Aside0.mk hb0
    clear hb0 hcall hc
    dsimp only
    go_wp2
    go_roundg (l0.length - (kk + 1))
    case measure => omega
    case rel =>
     refine ⟨kk + 1, by omega, by omega, by go_num, hb', ⟨fun j hj => ?_⟩⟩
     by_cases e : j = kk
     ·subst e
      rw [B.out]; exact HQ.out
     ·exact A.out j (by omega)
  ·have hltz : ¬ (kk : Int) < (l0.length : Int) := by omega
   obtain rfl : kk = l0.length := by omega
   go_wp2
   go_ret
   refine ⟨?_, BW.out⟩
   rw [idxP_miss p l0 A.out]; rfl
theorem slices_ContainsFunc_I.calls (g : Nat) (lb : Array Value) (p : Int → Bool) (eg : ∀ args w, (callFunc g args).run Try.prog w = .ok (.enter g args) w) (A0 : Option Addr) (c0 : Nat) (l0 : List Int) (w : World) (hr0 : Kd.C (Kd.int .i64) w A0 l0.length l0)
  (hp : ∀ (W : World) (x : Int), Below w.heap.size w W → Calls Try.prog g (#[.int .i64 x] ++ lb) W fun e w' => e = .returned (.bool (p x)) ∧ Below w.heap.size w w') :
  Calls Try.prog 217 #[.slice A0 l0.length c0, .func (.func g) #[] lb] w fun e w' => e = .returned (.bool (l0.any p)) ∧ Below w.heap.size w w' := by
 have e0 : l0.any p = decide (0 ≤ idxP p l0) := (idxP_any p l0).symm
 have hcall := slices_IndexFunc_I.calls g lb p eg A0 c0 l0 w hr0 hp
 have E0 := Aside0.mk e0
 clear e0 hp
 generalize idxP p l0 = r at hcall E0
 go_enter Try.func217, Try.ntmps217
 go_wp2_with (go_at_call 220; refine hcall.mono ?_; rintro e w' ⟨rfl, hb'⟩)
 go_ret
 exact ⟨by rw [E0.out]; rfl, hb'⟩

-- by hand: function 217 (slices_ContainsFunc_int64_int64)

/-! ### impl_allWithin: function 204, by hand -/
def allP (lo hi x : Int) : Bool := !(decide (lo ≤ x) && decide (x ≤ hi))
theorem within_allP (lo hi x : Int) : impl_within.f x lo hi = some (!(allP lo hi x)) := by
 unfold impl_within.f allP
 by_cases h1 : lo ≤ x <;> by_cases h2 : x ≤ hi <;> simp [h1, h2, Int.not_le.1] <;> omega

set_option maxHeartbeats 4000000 in
theorem impl_allWithin_1.calls (b1 b2 : Nat) (lo hi : Int) (x : Int) (W : World) (hc1 : W.cell? ⟨b1, 0, none⟩ = some (.int .i64 lo)) (hc2 : W.cell? ⟨b2, 0, none⟩ = some (.int .i64 hi)) :
  Calls Try.prog 218 #[.int .i64 x, .pointer (some ⟨b1, 0, none⟩), .pointer (some ⟨b2, 0, none⟩)] W fun e w' => e = .returned (.bool (allP lo hi x)) ∧ Below W.heap.size W w' := by
 have hcall := fun W' => impl_within.calls x lo hi _ W' (within_allP lo hi x)
 have HC := Aside0.mk hcall
 clear hcall
 go_enter Try.func218, Try.ntmps218
 go_wp2_with fail
 refine (HC.out _).mono ?_
 rintro e w' ⟨rfl, ⟨nd, rfl⟩⟩
 dsimp only
 go_wp2
 go_ret
 exact ⟨by simp, pw_below_drewN (Below.refl _ _) _⟩

def impl_allWithin.f (l0 : List Int) (a1 : Int) (a2 : Int) : Option (Bool) := some (!(l0.any (allP a1 a2)))
set_option maxHeartbeats 4000000 in
theorem impl_allWithin.calls (A0 : Option Addr) (c0 : Nat) (l0 : List Int) (a1 : Int) (a2 : Int) (r : Bool) (w : World) (hr0 : Kd.C (Kd.int .i64) w A0 l0.length l0) (hc0 : l0.length ≤ c0) (h : impl_allWithin.f l0 a1 a2 = some r) :
  Calls Try.prog 204 #[.slice A0 l0.length c0, .int .i64 a1, .int .i64 a2] w fun e w' => e = .returned (.bool r) ∧ Below w.heap.size w w' := by
 obtain rfl := Option.some.inj h
 clear h
 have HR := Aside0.mk hr0
 clear hr0
 have eg := enters_of (P := Try.prog) Try.func218 (by kernel_rfl) rfl
 have EG := Aside0.mk eg
 clear eg
 go_enter Try.func204, Try.ntmps204
 go_wp2_with fail
 refine (slices_ContainsFunc_I.calls 218 _ (allP a1 a2) EG.out A0 c0 l0 _ (Kd.C_alloc (Kd.C_alloc HR.out _) _) ?_).mono ?_
 ·intro W x hb
  exact (impl_allWithin_1.calls _ _ a1 a2 x W ((hb.cell (by simp <;> omega)).trans (by simp)) ((hb.cell (by simp <;> omega)).trans (by simp))).mono (fun e w' ⟨he, hb2⟩ => ⟨he, hb.trans (hb2.mono hb.size)⟩)
 rintro e w' ⟨rfl, hb0⟩
 have HB := Aside0.mk hb0
 clear hb0
 dsimp only
 go_wp2
 go_ret
 exact ⟨rfl, below_then (below_alloc (below_alloc (Below.refl _ _) _) _) (by simp <;> omega) HB.out⟩

/-! ### impl_composedOk: function 172 -/
def impl_composedOk.f (l0 : List (S103)) (l1 : List Int) : Option (Bool) := if (l1.length : Int) ≤ 64 then ((impl_allWithin.f l1 0 (wrap64 ((l0.length : Int) - 1))).bind fun t210 => (some t210)) else (some false)
set_option maxHeartbeats 8000000 in
set_option maxRecDepth 100000 in
theorem impl_composedOk.calls (A0 : Option Addr) (c0 : Nat) (l0 : List (S103)) (A1 : Option Addr) (c1 : Nat) (l1 : List Int) (r : Bool) (w : World) (hr0 : Kd.C k103 w A0 l0.length l0) (hc0 : l0.length ≤ c0) (hr1 : Kd.C (Kd.int .i64) w A1 l1.length l1) (hc1 : l1.length ≤ c1) (h : impl_composedOk.f l0 l1 = some r) :
  Calls Try.prog 172 #[.slice A0 l0.length c0, .slice A1 l1.length c1] w fun e w' => e = .returned (.bool r) ∧ Below w.heap.size w w' := by
 have HR0 := Aside0.mk hr0
 have HC0 := Aside0.mk hc0
 clear hr0 hc0
 have HR1 := Aside0.mk hr1
 have HC1 := Aside0.mk hc1
 clear hr1 hc1
 have HB := Aside0.mk (Below.refl w.heap.size w)
 have H : (if (l1.length : Int) ≤ 64 then ((impl_allWithin.f l1 0 (wrap64 ((l0.length : Int) - 1))).bind fun t210 => (some t210)) else (some false)) = some r := h
 clear h
 by_cases c3 : (l1.length : Int) ≤ 64
 rotate_left
 ·rw [if_neg c3] at H
  have c3b0 : decide ((l1.length : Int) ≤ 64) = false := decide_eq_false c3
  have c3b1 : decide (l1.length ≤ 64) = false := decide_eq_false (by omega)
  clear c3
  obtain rfl := Option.some.inj H
  go_enter Try.func172, Try.ntmps172
  go_wp2
  go_ret
  exact ⟨by first | rfl | (simp [errW_none, errW_some] <;> rfl) | (simp [*, errW_none, errW_some] <;> rfl), by repeat (first | exact HB.out | apply below_alloc | apply pw_below_drewN | apply below_drew1)⟩
 rw [if_pos c3] at H
 have c3b0 : decide ((l1.length : Int) ≤ 64) = true := decide_eq_true c3
 have c3b1 : decide (l1.length ≤ 64) = true := decide_eq_true (by omega)
 clear c3
 replace H := Option.bind_eq_some_iff.mp H
 obtain ⟨t210, A40, H⟩ := H
 replace H : (some t210) = some r := H
 have A4 := Aside0.mk A40
 clear A40
 obtain rfl := Option.some.inj H
 go_enter Try.func172, Try.ntmps172
 go_wp2_with (first | (go_at_call 204; (with_reducible refine (impl_allWithin.calls _ _ l1 0 (wrap64 ((l0.length : Int) - 1)) t210 _ ?side1 ?side2 A4.out).mono ?_); (case side1 => exact HR1.out); (case side2 => exact HC1.out); rintro e w5 ⟨rfl, hb⟩; have n0_ := Aside0.mk (below_step (by repeat (first | exact HB.out | apply below_alloc | apply pw_below_drewN | apply below_drew1)) hb); clear HB; have HB := n0_; clear n0_; (try clear hb); (try clear hb2); (try clear hk); (try clear hi)))
 go_ret
 exact ⟨by first | rfl | (simp [errW_none, errW_some] <;> rfl) | (simp [*, errW_none, errW_some] <;> rfl), by repeat (first | exact HB.out | apply below_alloc | apply pw_below_drewN | apply below_drew1)⟩

/-! ### impl_themeCode: function 90 -/
def impl_themeCode.j0 : Nat → Int → Bool → Option (Int)
 | 0, _, _ => none
 | k + 1, x2, x11 => if x11 = true then (some 7) else ((impl_within.f x2 1 32).bind fun t213 => (if t213 = true then (some 0) else (some 2)))
def impl_themeCode.f (k : Nat) (l0 : List (S103)) (l1 : List Int) (a2 : Int) : Option (Int) := (impl_ValidSyllables.f k l0).bind fun t211 => (if t211 = true then (if (l1.length : Int) < 1 then (impl_themeCode.j0 k a2 true) else (if (l1.length : Int) > 32 then (impl_themeCode.j0 k a2 true) else ((impl_composedOk.f l0 l1).bind fun t212 => (impl_themeCode.j0 k a2 (!t212))))) else (some 1))
theorem impl_themeCode.mono_l : ∀ k, (∀ y0 y1, LeO (impl_themeCode.j0 k y0 y1) (impl_themeCode.j0 (k + 1) y0 y1))
 | 0 => fun _ _ r h => by simp [impl_themeCode.j0] at h
 | k + 1 => by
  have ih0 := impl_themeCode.mono_l k
  ·intro y0 y1
   unfold impl_themeCode.j0
   repeat' first
   | (with_reducible exact ih0 _ _)
   | (with_reducible exact impl_ValidSyllables.mono _ _)
   | (with_reducible exact LeO.refl _)
   | (with_reducible exact LeO.none _)
   | (with_reducible refine LeO.ite ?_ ?_)
   | (with_reducible refine LeO.bind ?_ (fun _ => ?_))
   | exact ih0 _ _
   | exact impl_ValidSyllables.mono _ _
   | exact LeO.none _
   | refine LeO.ite ?_ ?_
   | refine LeO.bind ?_ (fun _ => ?_)
theorem impl_themeCode.mono : ∀ a0 a1 a2 k, LeO (impl_themeCode.f k a0 a1 a2) (impl_themeCode.f (k + 1) a0 a1 a2) := by
 intro a0 a1 a2 k
 have ih0 := impl_themeCode.mono_l k
 unfold impl_themeCode.f
 repeat' first
   | (with_reducible exact ih0 _ _)
   | (with_reducible exact impl_ValidSyllables.mono _ _)
   | (with_reducible exact LeO.refl _)
   | (with_reducible exact LeO.none _)
   | (with_reducible refine LeO.ite ?_ ?_)
   | (with_reducible refine LeO.bind ?_ (fun _ => ?_))
   | exact ih0 _ _
   | exact impl_ValidSyllables.mono _ _
   | exact LeO.none _
   | refine LeO.ite ?_ ?_
   | refine LeO.bind ?_ (fun _ => ?_)
set_option maxHeartbeats 8000000 in
set_option maxRecDepth 100000 in
theorem impl_themeCode.calls (k : Nat) (A0 : Option Addr) (c0 : Nat) (l0 : List (S103)) (A1 : Option Addr) (c1 : Nat) (l1 : List Int) (a2 : Int) (r : Int) (w : World) (hr0 : Kd.C k103 w A0 l0.length l0) (hc0 : l0.length ≤ c0) (hr1 : Kd.C (Kd.int .i64) w A1 l1.length l1) (hc1 : l1.length ≤ c1) (h : impl_themeCode.f k l0 l1 a2 = some r) :
  Calls Try.prog 90 #[.slice A0 l0.length c0, .slice A1 l1.length c1, .int .i64 a2] w fun e w' => e = .returned (.int .i64 r) ∧ Below w.heap.size w w' := by
 have HR0 := Aside0.mk hr0
 have HC0 := Aside0.mk hc0
 clear hr0 hc0
 have HR1 := Aside0.mk hr1
 have HC1 := Aside0.mk hc1
 clear hr1 hc1
 have HB := Aside0.mk (Below.refl w.heap.size w)
 have H : ((impl_ValidSyllables.f k l0).bind fun t211 => (if t211 = true then (if (l1.length : Int) < 1 then (impl_themeCode.j0 k a2 true) else (if (l1.length : Int) > 32 then (impl_themeCode.j0 k a2 true) else ((impl_composedOk.f l0 l1).bind fun t212 => (impl_themeCode.j0 k a2 (!t212))))) else (some 1))) = some r := h
 clear h
 replace H := Option.bind_eq_some_iff.mp H
 obtain ⟨t211, A40, H⟩ := H
 replace H : (if t211 = true then (if (l1.length : Int) < 1 then (impl_themeCode.j0 k a2 true) else (if (l1.length : Int) > 32 then (impl_themeCode.j0 k a2 true) else ((impl_composedOk.f l0 l1).bind fun t212 => (impl_themeCode.j0 k a2 (!t212))))) else (some 1)) = some r := H
 have A4 := Aside0.mk A40
 clear A40
 by_cases c5 : t211 = true
 rotate_left
 ·replace c5 := Bool.eq_false_iff.mpr c5
  subst c5
  have H1 : (some 1) = some r := by rw [if_neg (show ¬ (false = true) by decide)] at H; exact H
  clear H
  have H := H1
  clear H1
  obtain rfl := Option.some.inj H
  go_enter Try.func90, Try.ntmps90
  go_wp2_with (first | ((with_reducible refine gate_callee (f := 110) rfl ?_); refine goesL_ (some 9) rfl rfl Try.func110 (by kernel_rfl) rfl #[.slice A0 l0.length c0] rfl (by (try simp only [List.map_toArray, List.map_cons, List.map_nil]); first | done | rfl) ?_; (with_reducible refine (impl_ValidSyllables.calls k _ _ l0 false _ ?side1 ?side2 A4.out).mono ?_); (case side1 => exact HR0.out); (case side2 => exact HC0.out); rintro e w15 ⟨rfl, hb⟩; refine ⟨_, rfl, ?_⟩; have n0_ := Aside0.mk (below_step (by repeat (first | exact HB.out | apply below_alloc | apply pw_below_drewN | apply below_drew1)) hb); clear HB; have HB := n0_; clear n0_; (try clear hb); (try clear hb2); (try clear hk); (try clear hi)))
  go_ret
  exact ⟨by first | rfl | (simp [errW_none, errW_some] <;> rfl) | (simp [*, errW_none, errW_some] <;> rfl), by repeat (first | exact HB.out | apply below_alloc | apply pw_below_drewN | apply below_drew1)⟩
 subst c5
 have H1 : (if (l1.length : Int) < 1 then (impl_themeCode.j0 k a2 true) else (if (l1.length : Int) > 32 then (impl_themeCode.j0 k a2 true) else ((impl_composedOk.f l0 l1).bind fun t212 => (impl_themeCode.j0 k a2 (!t212))))) = some r := by rw [if_pos rfl] at H; exact H
 clear H
 have H := H1
 clear H1
 have HC6 := Aside0.mk H
 clear H
 go_enter Try.func90, Try.ntmps90
 go_upto_region 3 with (first | ((with_reducible refine gate_callee (f := 110) rfl ?_); refine goesL_ (some 9) rfl rfl Try.func110 (by kernel_rfl) rfl #[.slice A0 l0.length c0] rfl (by (try simp only [List.map_toArray, List.map_cons, List.map_nil]); first | done | rfl) ?_; (with_reducible refine (impl_ValidSyllables.calls k _ _ l0 true _ ?side1 ?side2 A4.out).mono ?_); (case side1 => exact HR0.out); (case side2 => exact HC0.out); rintro e w7 ⟨rfl, hb⟩; refine ⟨_, rfl, ?_⟩; have n0_ := Aside0.mk (below_step (by repeat (first | exact HB.out | apply below_alloc | apply pw_below_drewN | apply below_drew1)) hb); clear HB; have HB := n0_; clear n0_; (try clear hb); (try clear hb2); (try clear hk); (try clear hi)))
 (try simp only [Act.put, s0_, s1_, s2_])
 go_cut [11] (fun v11 wc => ∃ (kq : Nat) (x11_5 : Bool), v11 = .bool x11_5 ∧ Aside0 (impl_themeCode.j0 kq a2 x11_5 = some r) ∧ Aside0 (kq ≤ k) ∧ Aside0 (Below w.heap.size w wc))
 case first =>
  have H := HC6.out
  clear HC6
  by_cases c8 : (l1.length : Int) < 1
  rotate_left
  ·rw [if_neg c8] at H
   have c8b0 : decide ((l1.length : Int) < 1) = false := decide_eq_false c8
   have c8b1 : decide (l1.length < 1) = false := decide_eq_false (by omega)
   clear c8
   (first | rw [c8b0] | (simp only [i64_w, i32_w]; rw [c8b0]) | skip)
   by_cases c9 : (l1.length : Int) > 32
   rotate_left
   ·rw [if_neg c9] at H
    have c9b0 : decide (32 < (l1.length : Int)) = false := decide_eq_false c9
    have c9b1 : decide (32 < l1.length) = false := decide_eq_false (by omega)
    clear c9
    replace H := Option.bind_eq_some_iff.mp H
    obtain ⟨t212, A100, H⟩ := H
    replace H : (impl_themeCode.j0 k a2 (!t212)) = some r := H
    have A10 := Aside0.mk A100
    clear A100
    have H' := Aside0.mk H
    clear H
    go_wp2_with (first | (go_at_call 172; (with_reducible refine (impl_composedOk.calls _ _ l0 _ _ l1 t212 _ ?side1 ?side2 ?side3 ?side4 A10.out).mono ?_); (case side1 => exact (Kd.C_below HR0.out HB.out)); (case side2 => exact HC0.out); (case side3 => exact (Kd.C_below HR1.out HB.out)); (case side4 => exact HC1.out); rintro e w11 ⟨rfl, hb⟩; have n0_ := Aside0.mk (below_step (by repeat (first | exact HB.out | apply below_alloc | apply pw_below_drewN | apply below_drew1)) hb); clear HB; have HB := n0_; clear n0_; (try clear hb); (try clear hb2); (try clear hk); (try clear hi)))
    go_meet
    case rel => exact ⟨_, (!t212), (by first | rfl | (simp; done) | (simp [*]; done)), H', ⟨by first | omega | exact Nat.le_refl _⟩, ⟨by repeat (first | exact HB.out | apply below_alloc | apply pw_below_drewN | apply below_drew1)⟩⟩
   rw [if_pos c9] at H
   have c9b0 : decide (32 < (l1.length : Int)) = true := decide_eq_true c9
   have c9b1 : decide (32 < l1.length) = true := decide_eq_true (by omega)
   clear c9
   have H' := Aside0.mk H
   clear H
   go_wp2
   go_meet
   case rel => exact ⟨_, (true), (by first | rfl | (simp; done) | (simp [*]; done)), H', ⟨by first | omega | exact Nat.le_refl _⟩, ⟨by repeat (first | exact HB.out | apply below_alloc | apply pw_below_drewN | apply below_drew1)⟩⟩
  rw [if_pos c8] at H
  have c8b0 : decide ((l1.length : Int) < 1) = true := decide_eq_true c8
  have c8b1 : decide (l1.length < 1) = true := decide_eq_true (by omega)
  clear c8
  (first | rw [c8b0] | (simp only [i64_w, i32_w]; rw [c8b0]) | skip)
  have H' := Aside0.mk H
  clear H
  go_wp2
  go_meet
  case rel => exact ⟨_, (true), (by first | rfl | (simp; done) | (simp [*]; done)), H', ⟨by first | omega | exact Nat.le_refl _⟩, ⟨by repeat (first | exact HB.out | apply below_alloc | apply pw_below_drewN | apply below_drew1)⟩⟩
 case rest =>
  clear HC6
  try clear c1
  try clear p2
  try clear c5
  try clear c8
  try clear c8b0
  try clear c8b1
  try clear c9
  try clear c9b0
  try clear c9b1
  try clear c11
  obtain ⟨kq, x11_5, rfl, HA, HJ5, HB⟩ := hcut
  cases kq with
  | zero => exact absurd HA.out (by simp [impl_themeCode.j0])
  | succ kj5 =>
   have H := HA.out
   clear HA
   simp only [impl_themeCode.j0] at H
   by_cases c12 : x11_5 = true
   rotate_left
   ·replace c12 := Bool.eq_false_iff.mpr c12
    subst c12
    have H1 : ((impl_within.f a2 1 32).bind fun t213 => (if t213 = true then (some 0) else (some 2))) = some r := by rw [if_neg (show ¬ (false = true) by decide)] at H; exact H
    clear H
    have H := H1
    clear H1
    replace H := Option.bind_eq_some_iff.mp H
    obtain ⟨t213, A130, H⟩ := H
    replace H : (if t213 = true then (some 0) else (some 2)) = some r := H
    have A13 := Aside0.mk A130
    clear A130
    by_cases c14 : t213 = true
    rotate_left
    ·replace c14 := Bool.eq_false_iff.mpr c14
     subst c14
     have H1 : (some 2) = some r := by rw [if_neg (show ¬ (false = true) by decide)] at H; exact H
     clear H
     have H := H1
     clear H1
     obtain rfl := Option.some.inj H
     go_wp2_with (first | ((with_reducible refine gate_callee (f := 111) rfl ?_); refine goesL_ (some 28) rfl rfl Try.func111 (by kernel_rfl) rfl #[.int .i64 a2, .int .i64 1, .int .i64 32] rfl (by (try simp only [List.map_toArray, List.map_cons, List.map_nil]); first | done | rfl) ?_; (with_reducible refine (impl_within.calls a2 1 32 false _ A13.out).mono ?_); rintro e w' ⟨rfl, ⟨nd, rfl⟩⟩; refine ⟨_, rfl, ?_⟩))
     go_ret
     exact ⟨by first | rfl | (simp [errW_none, errW_some] <;> rfl) | (simp [*, errW_none, errW_some] <;> rfl), by repeat (first | exact HB.out | apply below_alloc | apply pw_below_drewN | apply below_drew1)⟩
    subst c14
    have H1 : (some 0) = some r := by rw [if_pos rfl] at H; exact H
    clear H
    have H := H1
    clear H1
    obtain rfl := Option.some.inj H
    go_wp2_with (first | ((with_reducible refine gate_callee (f := 111) rfl ?_); refine goesL_ (some 28) rfl rfl Try.func111 (by kernel_rfl) rfl #[.int .i64 a2, .int .i64 1, .int .i64 32] rfl (by (try simp only [List.map_toArray, List.map_cons, List.map_nil]); first | done | rfl) ?_; (with_reducible refine (impl_within.calls a2 1 32 true _ A13.out).mono ?_); rintro e w' ⟨rfl, ⟨nd, rfl⟩⟩; refine ⟨_, rfl, ?_⟩))
    go_ret
    exact ⟨by first | rfl | (simp [errW_none, errW_some] <;> rfl) | (simp [*, errW_none, errW_some] <;> rfl), by repeat (first | exact HB.out | apply below_alloc | apply pw_below_drewN | apply below_drew1)⟩
   subst c12
   have H1 : (some 7) = some r := by rw [if_pos rfl] at H; exact H
   clear H
   have H := H1
   clear H1
   obtain rfl := Option.some.inj H
   go_wp2
   go_ret
   exact ⟨by first | rfl | (simp [errW_none, errW_some] <;> rfl) | (simp [*, errW_none, errW_some] <;> rfl), by repeat (first | exact HB.out | apply below_alloc | apply pw_below_drewN | apply below_drew1)⟩

end Go.Proofs.Ytfledgccnaknpaa.PFnExactClosedForm
