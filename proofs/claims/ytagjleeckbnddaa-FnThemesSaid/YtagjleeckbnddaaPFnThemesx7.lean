-- written by xprint.py, a program of this repo over the kit's print; not trusted: Lean checks it
import Derived.Test.YtagjleeckbnddaaPFnThemesx0
import Derived.Test.YtagjleeckbnddaaPFnThemesx3
import Derived.Test.YtagjleeckbnddaaPFnThemesx5
import Derived.Test.YtagjleeckbnddaaPFnThemesx6
namespace Go.Proofs.Ytagjleeckbnddaa.PFnThemes
open Go.RowKit Go.Proofs.YtagjleeckbnddaaW.PrintWords Go.Proofs.YtagjleeckbnddaaW.PrintLast Go.Proofs.YtagjleeckbnddaaW.PrintMore
attribute [local go_sem] max2_int min2_int max_two min_two max_three min_three max_four min_four   -- for this text's walks alone
set_option linter.unusedVariables false
set_option linter.unusedSimpArgs false

/-! ### slices_Contains_int64_int64: function 57 -/
def slices_Contains_int64_int64.f (k : Nat) (l0 : List Int) (a1 : Int) : Option (Bool) := (slices_Index_int64_int64.f k l0 a1).bind fun t322 => (some (decide (t322 ≥ 0)))
theorem slices_Contains_int64_int64.mono : ∀ a0 a1 k, LeO (slices_Contains_int64_int64.f k a0 a1) (slices_Contains_int64_int64.f (k + 1) a0 a1) := by
 intro a0 a1 k;unfold slices_Contains_int64_int64.f
 repeat' first
   | (with_reducible exact slices_Index_int64_int64.mono _ _ _)
   | (with_reducible exact LeO.refl _)
   | (with_reducible exact LeO.none _)
   | (with_reducible refine LeO.ite ?_ ?_)
   | (with_reducible refine LeO.bind ?_ (fun _ => ?_))
   | exact slices_Index_int64_int64.mono _ _ _
   | exact LeO.none _
   | refine LeO.ite ?_ ?_
   | refine LeO.bind ?_ (fun _ => ?_)
set_option maxHeartbeats 8000000 in
set_option maxRecDepth 100000 in
theorem slices_Contains_int64_int64.calls (k : Nat) (A0 : Option Addr) (c0 : Nat) (l0 : List Int) (a1 : Int) (r : Bool) (w : World) (hr0 : Kd.C (Kd.int .i64) w A0 l0.length l0) (hc0 : l0.length ≤ c0) (h : slices_Contains_int64_int64.f k l0 a1 = some r) :
  Calls Try.prog 57 #[.slice A0 l0.length c0, .int .i64 a1] w fun e w' => e = .returned (.bool r) ∧ Drawn0 w w' := by
 have HR0 := Aside0.mk hr0;have HC0 := Aside0.mk hc0;clear hr0 hc0;have H : ((slices_Index_int64_int64.f k l0 a1).bind fun t322 => (some (decide (t322 ≥ 0)))) = some r := h;clear h;replace H := Option.bind_eq_some_iff.mp H;obtain ⟨t322, A30, H⟩ := H;replace H : (some (decide (t322 ≥ 0))) = some r := H;have A3 := Aside0.mk A30;clear A30;obtain rfl := Option.some.inj H;go_enter Try.func57, Try.ntmps57;go_wp2_with (first | ((with_reducible refine gate_callee (f := 99) rfl ?_); refine goesL_ (some 7) rfl rfl Try.func99 (by kernel_rfl) rfl #[.slice A0 l0.length c0, .int .i64 a1] rfl (by (try simp only [List.map_toArray, List.map_cons, List.map_nil]); first | done | rfl | (simp only [List.length_drop, List.length_take]; rfl)) ?_; (with_reducible refine (slices_Index_int64_int64.calls k _ _ l0 a1 t322 _ ?side1 ?side2 A3.out).mono ?_); (case side1 => repeat (first | exact HR0.out | (with_reducible refine Kd.C_alloc ?_ _) | (with_reducible refine Kd.C_drewN ?_ _) | (with_reducible refine Kd.C_drew ?_))); (case side2 => exact HC0.out); rintro e w' ⟨rfl, ⟨nd, rfl⟩⟩; refine ⟨_, rfl, ?_⟩));go_ret;exact ⟨by first | rfl | (simp; done) | (simp [*]; done), by repeat (first | exact Drawn0.refl _ | apply Drawn0.step)⟩

/-! ### impl_IsVariation: function 11, by hand -/
theorem vHas_l0 (l : List Int) (n : Int) (hl : l.length ≤ 9223372036854775807) (d : Nat) : ∀ i : Nat, i + d = l.length → ∃ k, ∃ t : Int, (decide (t ≥ 0) = decide (n ∈ l.drop i)) ∧ slices_Index_int64_int64.l0 k l n (l.length : Int) i = some t := by
 induction d with
 | zero =>
  intro i h;refine ⟨1, -1, ?_, ?_⟩
  ·rw [List.drop_of_length_le (by omega)]; simp
  ·simp only [slices_Index_int64_int64.l0]; rw [if_neg (by omega)]
 | succ d ih =>
  intro i h;have e1 : l.drop i = l[i] :: l.drop (i + 1) := List.drop_eq_getElem_cons (by omega)
  have e2 : rd l (i : Int) = l[i] := by unfold rd; rw [Int.toNat_natCast, List.getD_eq_getElem?_getD, List.getElem?_eq_getElem (by omega)]; rfl
  by_cases c : n = l[i]
  ·refine ⟨1, i, ?_, ?_⟩
   ·rw [e1, decide_eq_true (by omega), decide_eq_true (by rw [c]; exact List.mem_cons_self)]
   ·simp only [slices_Index_int64_int64.l0]
    rw [if_pos (by omega), if_pos (by omega), if_pos (by omega), e2, if_pos c]
  ·obtain ⟨k, t, h1, h2⟩ := ih (i + 1) (by omega)
   refine ⟨k + 1, t, ?_, ?_⟩
   ·rw [h1, e1, decide_eq_decide, List.mem_cons]; exact ⟨.inr, fun h => h.elim (fun e => absurd e c) id⟩
   ·simp only [slices_Index_int64_int64.l0]
    rw [if_pos (by omega), if_pos (by omega), if_pos (by omega), e2, if_neg c, show wrap64 ((i : Int) + 1) = ((i + 1 : Nat) : Int) by unfold wrap64; omega];exact h2
theorem vHas (l : List Int) (n : Int) (hl : l.length ≤ 9223372036854775807) : ∃ k, slices_Contains_int64_int64.f k l n = some (decide (n ∈ l)) := by
 obtain ⟨k, t, h1, h2⟩ := vHas_l0 l n hl l.length 0 (by omega);refine ⟨k, ?_⟩;unfold slices_Contains_int64_int64.f slices_Index_int64_int64.f;rw [show (0 : Int) = ((0 : Nat) : Int) from rfl, h2];simp only [Option.bind_some];rw [List.drop_zero] at h1;rw [← h1]; rfl
set_option maxHeartbeats 4000000 in
theorem impl_IsVariation_1.calls (b : Nat) (A1 : Option Addr) (c1 : Nat) (l1 : List Int) (x : Int) (W : World) (hc : W.cell? ⟨b, 0, none⟩ = some (.slice A1 l1.length c1)) (hr1 : Kd.C (Kd.int .i64) W A1 l1.length l1) (hc1 : l1.length ≤ c1) (hl : l1.length ≤ 9223372036854775807) :
  Calls Try.prog 56 #[.int .i64 x, .pointer (some ⟨b, 0, none⟩)] W fun e w' => e = .returned (.bool (!(decide (x ∈ l1)))) ∧ Below W.heap.size W w' := by
 obtain ⟨k, hk⟩ := vHas l1 x hl;have hcall := slices_Contains_int64_int64.calls k A1 c1 l1 x _ W hr1 hc1 hk;have HC := Aside0.mk hcall;clear hcall hk hr1 hc1;generalize decide (x ∈ l1) = r at HC ⊢;go_enter Try.func56, Try.ntmps56;go_wp2_with fail;refine HC.out.mono ?_;rintro e w' ⟨rfl, ⟨nd, rfl⟩⟩;dsimp only;go_wp2;go_ret;exact ⟨rfl, pw_below_drewN (Below.refl _ _) _⟩
def impl_IsVariation.f (k : Nat) (l0 : List S93) (l1 : List Int) (l2 : List Int) : Option (Bool) := (impl_themeCode.f k l0 l1 1).bind fun t => if t = 0 then ((impl_composedOk.f l0 l2).bind fun b => if b = true then ((impl_unitsOfComposed.f k l0 l1).bind fun u => (impl_unitsOfComposed.f k l0 l2).bind fun v => if u = v then some (!(l2.any fun x => !(decide (x ∈ l1)))) else some false) else some false) else some false
theorem impl_IsVariation.mono : ∀ a0 a1 a2 k, LeO (impl_IsVariation.f k a0 a1 a2) (impl_IsVariation.f (k + 1) a0 a1 a2) := by
 intro a0 a1 a2 k;unfold impl_IsVariation.f
 repeat' first
   | exact impl_themeCode.mono _ _ _ _
   | exact impl_unitsOfComposed.mono _ _ _
   | (with_reducible exact LeO.refl _)
   | (with_reducible exact LeO.none _)
   | (with_reducible refine LeO.ite ?_ ?_)
   | (with_reducible refine LeO.bind ?_ (fun _ => ?_))
   | exact LeO.none _
   | refine LeO.ite ?_ ?_
   | refine LeO.bind ?_ (fun _ => ?_)
set_option maxHeartbeats 8000000 in
set_option maxRecDepth 100000 in
theorem impl_IsVariation.calls (k : Nat) (A0 : Option Addr) (c0 : Nat) (l0 : List S93) (A1 : Option Addr) (c1 : Nat) (l1 : List Int) (A2 : Option Addr) (c2 : Nat) (l2 : List Int) (r : Bool) (w : World) (hr0 : Kd.C k93 w A0 l0.length l0) (hc0 : l0.length ≤ c0) (hr1 : Kd.C (Kd.int .i64) w A1 l1.length l1) (hc1 : l1.length ≤ c1) (hr2 : Kd.C (Kd.int .i64) w A2 l2.length l2) (hc2 : l2.length ≤ c2) (h : impl_IsVariation.f k l0 l1 l2 = some r) :
  Calls Try.prog 11 #[.slice A0 l0.length c0, .slice A1 l1.length c1, .slice A2 l2.length c2] w fun e w' => e = .returned (.bool r) ∧ Below w.heap.size w w' := by
 have hbig := Kd.C_max hr1;have HBIG := Aside0.mk hbig;clear hbig;have HR0 := Aside0.mk hr0;have HR1 := Aside0.mk hr1;have HR2 := Aside0.mk hr2;have HC0 := Aside0.mk hc0;have HC1 := Aside0.mk hc1;have HC2 := Aside0.mk hc2;clear hr0 hr1 hr2 hc0 hc1 hc2;have eg := enters_of (P := Try.prog) Try.func56 (by kernel_rfl) rfl;have EG := Aside0.mk eg;clear eg;have H : ((impl_themeCode.f k l0 l1 1).bind fun t => if t = 0 then ((impl_composedOk.f l0 l2).bind fun b => if b = true then ((impl_unitsOfComposed.f k l0 l1).bind fun u => (impl_unitsOfComposed.f k l0 l2).bind fun v => if u = v then some (!(l2.any fun x => !(decide (x ∈ l1)))) else some false) else some false) else some false) = some r := h;clear h;obtain ⟨t, ht, H⟩ := Option.bind_eq_some_iff.mp H;have HT := Aside0.mk ht;clear ht;by_cases ct : t = 0
 ·rw [if_pos ct] at H
  obtain ⟨b, hb, H⟩ := Option.bind_eq_some_iff.mp H;have HBO := Aside0.mk hb;clear hb;have ct1 : (t != 0) = false := bne_eq_false_iff_eq.2 ct;have ct2 : (t == 0) = true := beq_iff_eq.2 ct;have CT := Aside0.mk ct;clear ct
  cases b with
  | false =>
   rw [if_neg (by simp)] at H;obtain rfl := Option.some.inj H;clear H;go_enter Try.func11, Try.ntmps11;go_wp2_with (fail);refine (impl_themeCode.calls k A0 c0 l0 A1 c1 l1 1 t _ (Kd.C_alloc HR0.out _) HC0.out (Kd.C_alloc HR1.out _) HC1.out HT.out).mono ?_;rintro e w2 ⟨rfl, hb2⟩;have hcell2 : w2.cell? ⟨w.heap.size, 0, none⟩ = some (.slice A1 l1.length c1) := (hb2.cell (by simp <;> omega)).trans (by simp);have HB2 : Aside0 (Below w.heap.size w w2) := ⟨below_then (below_alloc (Below.refl _ _) _) (by simp <;> omega) hb2⟩;have HS2 : Aside0 (w.heap.size < w2.heap.size) := ⟨by have := hb2.size; simp at this; omega⟩;clear hb2;dsimp only;go_wp2_with (fail);refine (impl_composedOk.calls A0 c0 l0 A2 c2 l2 false _ (Kd.C_below HR0.out HB2.out) HC0.out (Kd.C_below HR2.out HB2.out) HC2.out HBO.out).mono ?_;rintro e w3 ⟨rfl, hb3⟩;have hcell3 : w3.cell? ⟨w.heap.size, 0, none⟩ = some (.slice A1 l1.length c1) := (hb3.cell HS2.out).trans hcell2;have HB3 : Aside0 (Below w.heap.size w w3) := ⟨below_then HB2.out (Nat.le_of_lt HS2.out) hb3⟩;clear hb3;dsimp only;go_wp2_with (fail);go_ret
   exact ⟨rfl, HB3.out⟩
  | true =>
   rw [if_pos rfl] at H;obtain ⟨u, hu, H⟩ := Option.bind_eq_some_iff.mp H;obtain ⟨v, hv, H⟩ := Option.bind_eq_some_iff.mp H;have HU := Aside0.mk hu;have HV := Aside0.mk hv;clear hu hv;by_cases cv : u = v
   ·rw [if_pos cv] at H
    obtain rfl := Option.some.inj H;clear H;generalize hq : (l2.any fun x => !(decide (x ∈ l1))) = q;have HQ := Aside0.mk hq;clear hq;have cv1 : (u != v) = false := bne_eq_false_iff_eq.2 cv;have CV := Aside0.mk cv;clear cv;go_enter Try.func11, Try.ntmps11;go_wp2_with (fail);refine (impl_themeCode.calls k A0 c0 l0 A1 c1 l1 1 t _ (Kd.C_alloc HR0.out _) HC0.out (Kd.C_alloc HR1.out _) HC1.out HT.out).mono ?_;rintro e w2 ⟨rfl, hb2⟩;have hcell2 : w2.cell? ⟨w.heap.size, 0, none⟩ = some (.slice A1 l1.length c1) := (hb2.cell (by simp <;> omega)).trans (by simp);have HB2 : Aside0 (Below w.heap.size w w2) := ⟨below_then (below_alloc (Below.refl _ _) _) (by simp <;> omega) hb2⟩;have HS2 : Aside0 (w.heap.size < w2.heap.size) := ⟨by have := hb2.size; simp at this; omega⟩;clear hb2;dsimp only;go_wp2_with (fail);refine (impl_composedOk.calls A0 c0 l0 A2 c2 l2 true _ (Kd.C_below HR0.out HB2.out) HC0.out (Kd.C_below HR2.out HB2.out) HC2.out HBO.out).mono ?_;rintro e w3 ⟨rfl, hb3⟩;have hcell3 : w3.cell? ⟨w.heap.size, 0, none⟩ = some (.slice A1 l1.length c1) := (hb3.cell HS2.out).trans hcell2;have HB3 : Aside0 (Below w.heap.size w w3) := ⟨below_then HB2.out (Nat.le_of_lt HS2.out) hb3⟩;have HS3 : Aside0 (w.heap.size < w3.heap.size) := ⟨Nat.lt_of_lt_of_le HS2.out hb3.size⟩;clear hb3 hcell2;dsimp only;go_wp2_with (fail);refine (impl_unitsOfComposed.calls k A0 c0 l0 A1 c1 l1 u _ (Kd.C_below HR0.out HB3.out) HC0.out (Kd.C_below HR1.out HB3.out) HC1.out HU.out).mono ?_;rintro e w4 ⟨rfl, ⟨nd, rfl⟩⟩;dsimp only;go_wp2_with (fail);refine (impl_unitsOfComposed.calls k A0 c0 l0 A2 c2 l2 v _ (Kd.C_drewN (Kd.C_below HR0.out HB3.out) _) HC0.out (Kd.C_drewN (Kd.C_below HR2.out HB3.out) _) HC2.out HV.out).mono ?_
    rintro e w5 ⟨rfl, ⟨nd2, rfl⟩⟩;dsimp only;go_wp2_with (fail);refine (slices_ContainsFunc_I.calls 56 _ (fun x => !(decide (x ∈ l1))) EG.out A2 c2 l2 _ (Kd.C_drewN (Kd.C_below HR2.out HB3.out) _) ?_).mono ?_
    ·intro W x hb
     exact (impl_IsVariation_1.calls _ A1 c1 l1 x W ((hb.cell (by simpa using HS3.out)).trans (by simpa using hcell3)) (Kd.C_below (Kd.C_drewN (Kd.C_below HR1.out HB3.out) _) hb) HC1.out HBIG.out).mono (fun e w' ⟨he, hb2⟩ => ⟨he, hb.trans (hb2.mono hb.size)⟩)
    rintro e w' ⟨rfl, hb0⟩;rw [HQ.out];have HB := Aside0.mk hb0;clear hb0;dsimp only;go_wp2;go_ret;exact ⟨rfl, below_then (pw_below_drewN HB3.out _) (by simpa using Nat.le_of_lt HS3.out) HB.out⟩
   ·rw [if_neg cv] at H
    obtain rfl := Option.some.inj H;clear H;have cv1 : (u != v) = true := bne_iff_ne.2 cv;have CV := Aside0.mk cv;clear cv;go_enter Try.func11, Try.ntmps11;go_wp2_with (fail);refine (impl_themeCode.calls k A0 c0 l0 A1 c1 l1 1 t _ (Kd.C_alloc HR0.out _) HC0.out (Kd.C_alloc HR1.out _) HC1.out HT.out).mono ?_;rintro e w2 ⟨rfl, hb2⟩;have hcell2 : w2.cell? ⟨w.heap.size, 0, none⟩ = some (.slice A1 l1.length c1) := (hb2.cell (by simp <;> omega)).trans (by simp);have HB2 : Aside0 (Below w.heap.size w w2) := ⟨below_then (below_alloc (Below.refl _ _) _) (by simp <;> omega) hb2⟩;have HS2 : Aside0 (w.heap.size < w2.heap.size) := ⟨by have := hb2.size; simp at this; omega⟩;clear hb2;dsimp only;go_wp2_with (fail);refine (impl_composedOk.calls A0 c0 l0 A2 c2 l2 true _ (Kd.C_below HR0.out HB2.out) HC0.out (Kd.C_below HR2.out HB2.out) HC2.out HBO.out).mono ?_;rintro e w3 ⟨rfl, hb3⟩;have hcell3 : w3.cell? ⟨w.heap.size, 0, none⟩ = some (.slice A1 l1.length c1) := (hb3.cell HS2.out).trans hcell2;have HB3 : Aside0 (Below w.heap.size w w3) := ⟨below_then HB2.out (Nat.le_of_lt HS2.out) hb3⟩;clear hb3 hcell2;dsimp only;go_wp2_with (fail);refine (impl_unitsOfComposed.calls k A0 c0 l0 A1 c1 l1 u _ (Kd.C_below HR0.out HB3.out) HC0.out (Kd.C_below HR1.out HB3.out) HC1.out HU.out).mono ?_;rintro e w4 ⟨rfl, ⟨nd, rfl⟩⟩;dsimp only;go_wp2_with (fail);refine (impl_unitsOfComposed.calls k A0 c0 l0 A2 c2 l2 v _ (Kd.C_drewN (Kd.C_below HR0.out HB3.out) _) HC0.out (Kd.C_drewN (Kd.C_below HR2.out HB3.out) _) HC2.out HV.out).mono ?_;rintro e w5 ⟨rfl, ⟨nd2, rfl⟩⟩
    dsimp only;go_wp2_with (fail);go_ret;exact ⟨rfl, by repeat (first | exact HB3.out | apply below_alloc | apply pw_below_drewN | apply below_drew1)⟩
 ·rw [if_neg ct] at H
  obtain rfl := Option.some.inj H;clear H;have ct1 : (t == 0) = false := beq_eq_false_iff_ne.2 ct;have ct2 : (t != 0) = true := bne_iff_ne.2 ct;have CT := Aside0.mk ct;clear ct;go_enter Try.func11, Try.ntmps11;go_wp2_with (fail);refine (impl_themeCode.calls k A0 c0 l0 A1 c1 l1 1 t _ (Kd.C_alloc HR0.out _) HC0.out (Kd.C_alloc HR1.out _) HC1.out HT.out).mono ?_;rintro e w2 ⟨rfl, hb2⟩;have hcell2 : w2.cell? ⟨w.heap.size, 0, none⟩ = some (.slice A1 l1.length c1) := (hb2.cell (by simp <;> omega)).trans (by simp);have HB2 : Aside0 (Below w.heap.size w w2) := ⟨below_then (below_alloc (Below.refl _ _) _) (by simp <;> omega) hb2⟩;clear hb2;dsimp only;go_wp2_with (fail);go_ret;exact ⟨rfl, HB2.out⟩

/-! ### slices_Equal_int64_int64: function 58 -/
def slices_Equal_int64_int64.l0 : Nat → List Int → List Int → Int → Int → Option (Bool)
 | 0, _, _, _, _ => none
 | k + 1, x0, x1, x12, x13 => if x13 < x12 then (if 0 ≤ x13 then (if x13 < (x0.length : Int) then (if x13 < (x1.length : Int) then (if (rd x0 x13) = (rd x1 x13) then (slices_Equal_int64_int64.l0 k x0 x1 x12 (wrap64 (x13 + 1))) else (some false)) else (none)) else (none)) else (none)) else (some true)
def slices_Equal_int64_int64.f (k : Nat) (l0 : List Int) (l1 : List Int) : Option (Bool) := if (l0.length : Int) = (l1.length : Int) then (slices_Equal_int64_int64.l0 k l0 l1 (l0.length : Int) 0) else (some false)
theorem slices_Equal_int64_int64.mono_l : ∀ k, (∀ y0 y1 y2 y3, LeO (slices_Equal_int64_int64.l0 k y0 y1 y2 y3) (slices_Equal_int64_int64.l0 (k + 1) y0 y1 y2 y3))
 | 0 => fun _ _ _ _ r h => by simp [slices_Equal_int64_int64.l0] at h
 | k + 1 => by
  have ih0 := slices_Equal_int64_int64.mono_l k
  ·intro y0 y1 y2 y3
   unfold slices_Equal_int64_int64.l0
   repeat' first
   | (with_reducible exact ih0 _ _ _ _)
   | (with_reducible exact LeO.refl _)
   | (with_reducible exact LeO.none _)
   | (with_reducible refine LeO.ite ?_ ?_)
   | (with_reducible refine LeO.bind ?_ (fun _ => ?_))
   | exact ih0 _ _ _ _
   | exact LeO.none _
   | refine LeO.ite ?_ ?_
   | refine LeO.bind ?_ (fun _ => ?_)
theorem slices_Equal_int64_int64.mono : ∀ a0 a1 k, LeO (slices_Equal_int64_int64.f k a0 a1) (slices_Equal_int64_int64.f (k + 1) a0 a1) := by
 intro a0 a1 k;have ih0 := slices_Equal_int64_int64.mono_l k;unfold slices_Equal_int64_int64.f
 repeat' first
   | (with_reducible exact ih0 _ _ _ _)
   | (with_reducible exact LeO.refl _)
   | (with_reducible exact LeO.none _)
   | (with_reducible refine LeO.ite ?_ ?_)
   | (with_reducible refine LeO.bind ?_ (fun _ => ?_))
   | exact ih0 _ _ _ _
   | exact LeO.none _
   | refine LeO.ite ?_ ?_
   | refine LeO.bind ?_ (fun _ => ?_)
set_option maxHeartbeats 8000000 in
set_option maxRecDepth 100000 in
theorem slices_Equal_int64_int64.calls (k : Nat) (A0 : Option Addr) (c0 : Nat) (l0 : List Int) (A1 : Option Addr) (c1 : Nat) (l1 : List Int) (r : Bool) (w : World) (hr0 : Kd.C (Kd.int .i64) w A0 l0.length l0) (hc0 : l0.length ≤ c0) (hr1 : Kd.C (Kd.int .i64) w A1 l1.length l1) (hc1 : l1.length ≤ c1) (h : slices_Equal_int64_int64.f k l0 l1 = some r) :
  Calls Try.prog 58 #[.slice A0 l0.length c0, .slice A1 l1.length c1] w fun e w' => e = .returned (.bool r) ∧ Drawn0 w w' := by
 have HR0 := Aside0.mk hr0;have HC0 := Aside0.mk hc0;clear hr0 hc0;have HR1 := Aside0.mk hr1;have HC1 := Aside0.mk hc1;clear hr1 hc1;have H : (if (l0.length : Int) = (l1.length : Int) then (slices_Equal_int64_int64.l0 k l0 l1 (l0.length : Int) 0) else (some false)) = some r := h;clear h;by_cases c3 : (l0.length : Int) = (l1.length : Int);rotate_left
 ·rw [if_neg c3] at H
  have c3b0 : ((l0.length : Int) == (l1.length : Int)) = false := beq_eq_false_iff_ne.mpr c3;have c3b1 : ((l0.length : Int) != (l1.length : Int)) = true := bne_iff_ne.mpr c3
  have c3b2 : (l0.length == l1.length) = false := by first | simpa using c3 | (simp at c3 ⊢; omega)
  obtain rfl := Option.some.inj H;go_enter Try.func58, Try.ntmps58;go_wp2;(repeat (go_quiet (fail); try go_wp2));go_ret;exact ⟨by first | rfl | (simp; done) | (simp [*]; done), by repeat (first | exact Drawn0.refl _ | apply Drawn0.step)⟩
 rw [if_pos c3] at H;have c3b0 : ((l0.length : Int) == (l1.length : Int)) = true := beq_iff_eq.mpr c3;have c3b1 : ((l0.length : Int) != (l1.length : Int)) = false := bne_eq_false_iff_eq.mpr c3
 have c3b2 : (l0.length == l1.length) = true := by first | simpa using c3 | (simp at c3 ⊢; omega)
 clear c3;have H' := Aside0.mk H;clear H;go_enter Try.func58, Try.ntmps58;go_wp2;(repeat (go_quiet (fail); try go_wp2));go_loopg [13] k (fun kq v13 w' => ∃ (x13_1 : Int), v13 = .int .i64 x13_1 ∧ Aside0 (slices_Equal_int64_int64.l0 kq l0 l1 (l0.length : Int) x13_1 = some r) ∧ Aside0 (kq ≤ k) ∧ Drawn0 w w')
 case atStart => exact ⟨(0), (by first | rfl | (simp; done) | (simp [*]; done)), H', ⟨Nat.le_refl _⟩, by repeat (first | exact Drawn0.refl _ | apply Drawn0.step)⟩
 case round =>
  clear H';(try clear c1);(try clear p2);(try clear c3);(try clear c3b0);(try clear c3b1);(try clear c3b2);obtain ⟨x13_1, rfl, HA, HK1, ⟨m1, rfl⟩⟩ := hrel
  cases gk with
  | zero => exact absurd HA.out (by simp [slices_Equal_int64_int64.l0])
  | succ k1 =>
   have H := HA.out;clear HA;simp only [slices_Equal_int64_int64.l0] at H;by_cases c4 : x13_1 < (l0.length : Int);rotate_left
   ·rw [if_neg c4] at H
    have c4b0 : decide (x13_1 < (l0.length : Int)) = false := decide_eq_false c4;clear c4;obtain rfl := Option.some.inj H;go_wp2;(repeat (go_quiet (fail); try go_wp2));go_ret;exact ⟨by first | rfl | (simp; done) | (simp [*]; done), by repeat (first | exact Drawn0.refl _ | apply Drawn0.step)⟩
   rw [if_pos c4] at H;have c4b0 : decide (x13_1 < (l0.length : Int)) = true := decide_eq_true c4;clear c4;by_cases c5 : 0 ≤ x13_1;rotate_left
   ·rw [if_neg c5] at H
    exact absurd H (by simp)
   rw [if_pos c5] at H;have c5b0 : decide (0 ≤ x13_1) = true := decide_eq_true c5;clear c5;by_cases c6 : x13_1 < (l0.length : Int);rotate_left
   ·rw [if_neg c6] at H
    exact absurd H (by simp)
   rw [if_pos c6] at H;have c6b0 : decide (x13_1 < (l0.length : Int)) = true := decide_eq_true c6;clear c6;by_cases c7 : x13_1 < (l1.length : Int);rotate_left
   ·rw [if_neg c7] at H
    exact absurd H (by simp)
   rw [if_pos c7] at H;have c7b0 : decide (x13_1 < (l1.length : Int)) = true := decide_eq_true c7;clear c7;by_cases c8 : (rd l0 x13_1) = (rd l1 x13_1);rotate_left
   ·rw [if_neg c8] at H
    have c8b0 : ((rd l0 x13_1) == (rd l1 x13_1)) = false := beq_eq_false_iff_ne.mpr c8;have c8b1 : ((rd l0 x13_1) != (rd l1 x13_1)) = true := bne_iff_ne.mpr c8;obtain rfl := Option.some.inj H;have p323 : 0 ≤ (x13_1 : Int) := of_decide_eq_true (by assumption);have q323 : x13_1 < (l0.length : Int) := of_decide_eq_true (by assumption);obtain ⟨ad323, e323, hx323_0⟩ := Kd.at_int HR0.out x13_1 p323 q323
    cases e323
    replace p323 := eq_true p323;replace q323 := eq_true q323;have p324 : 0 ≤ (x13_1 : Int) := of_decide_eq_true (by assumption);have q324 : x13_1 < (l1.length : Int) := of_decide_eq_true (by assumption);obtain ⟨ad324, e324, hx324_0⟩ := Kd.at_int HR1.out x13_1 p324 q324
    cases e324
    replace p324 := eq_true p324;replace q324 := eq_true q324;go_wp2;(repeat (go_quiet (fail); try go_wp2));go_ret;exact ⟨by first | rfl | (simp; done) | (simp [*]; done), by repeat (first | exact Drawn0.refl _ | apply Drawn0.step)⟩
   rw [if_pos c8] at H;have c8b0 : ((rd l0 x13_1) == (rd l1 x13_1)) = true := beq_iff_eq.mpr c8;have c8b1 : ((rd l0 x13_1) != (rd l1 x13_1)) = false := bne_eq_false_iff_eq.mpr c8;clear c8;have H' := Aside0.mk H;clear H;have p323 : 0 ≤ (x13_1 : Int) := of_decide_eq_true (by assumption);have q323 : x13_1 < (l0.length : Int) := of_decide_eq_true (by assumption);obtain ⟨ad323, e323, hx323_0⟩ := Kd.at_int HR0.out x13_1 p323 q323
   cases e323
   replace p323 := eq_true p323;replace q323 := eq_true q323;have p324 : 0 ≤ (x13_1 : Int) := of_decide_eq_true (by assumption);have q324 : x13_1 < (l1.length : Int) := of_decide_eq_true (by assumption);obtain ⟨ad324, e324, hx324_0⟩ := Kd.at_int HR1.out x13_1 p324 q324
   cases e324
   replace p324 := eq_true p324;replace q324 := eq_true q324;go_wp2;(repeat (go_quiet (fail); try go_wp2));go_roundg k1
   case measure => have := HK1.out; omega
   case rel => exact ⟨(wrap64 (x13_1 + 1)), (by first | rfl | (simp; done) | (simp [*]; done)), H', ⟨by have := HK1.out; omega⟩, by repeat (first | exact Drawn0.refl _ | apply Drawn0.step)⟩

/-! ### impl_PeriodOf: function 12 -/
def impl_PeriodOf.l0 : Nat → List Int → Int → Option (Int × Int)
 | 0, _, _ => none
 | k + 1, x1, x7 => if 0 ≤ x7 then (if x7 ≤ (x1.length : Int) then (if 0 ≤ (wrap64 ((x1.length : Int) - x7)) then (if (wrap64 ((x1.length : Int) - x7)) ≤ (x1.length : Int) then ((slices_Equal_int64_int64.f k (x1.drop (x7 : Int).toNat) (x1.take ((wrap64 ((x1.length : Int) - x7)) : Int).toNat)).bind fun t328 => (if t328 = true then (some (x7, 0)) else (impl_PeriodOf.l0 k x1 (wrap64 (x7 + 1))))) else (none)) else (none)) else (none)) else (none)
def impl_PeriodOf.f (k : Nat) (l0 : List (S93)) (l1 : List Int) : Option (Int × Int) := (impl_themeCode.f k l0 l1 1).bind fun t325 => (if t325 = 0 then (impl_PeriodOf.l0 k l1 1) else (some (0, t325)))
theorem impl_PeriodOf.mono_l : ∀ k, (∀ y0 y1, LeO (impl_PeriodOf.l0 k y0 y1) (impl_PeriodOf.l0 (k + 1) y0 y1))
 | 0 => fun _ _ r h => by simp [impl_PeriodOf.l0] at h
 | k + 1 => by
  have ih0 := impl_PeriodOf.mono_l k
  ·intro y0 y1
   unfold impl_PeriodOf.l0
   repeat' first
   | (with_reducible exact ih0 _ _)
   | (with_reducible exact impl_themeCode.mono _ _ _ _)
   | (with_reducible exact slices_Equal_int64_int64.mono _ _ _)
   | (with_reducible exact LeO.refl _)
   | (with_reducible exact LeO.none _)
   | (with_reducible refine LeO.ite ?_ ?_)
   | (with_reducible refine LeO.bind ?_ (fun _ => ?_))
   | exact ih0 _ _
   | exact impl_themeCode.mono _ _ _ _
   | exact slices_Equal_int64_int64.mono _ _ _
   | exact LeO.none _
   | refine LeO.ite ?_ ?_
   | refine LeO.bind ?_ (fun _ => ?_)
theorem impl_PeriodOf.mono : ∀ a0 a1 k, LeO (impl_PeriodOf.f k a0 a1) (impl_PeriodOf.f (k + 1) a0 a1) := by
 intro a0 a1 k;have ih0 := impl_PeriodOf.mono_l k;unfold impl_PeriodOf.f
 repeat' first
   | (with_reducible exact ih0 _ _)
   | (with_reducible exact impl_themeCode.mono _ _ _ _)
   | (with_reducible exact slices_Equal_int64_int64.mono _ _ _)
   | (with_reducible exact LeO.refl _)
   | (with_reducible exact LeO.none _)
   | (with_reducible refine LeO.ite ?_ ?_)
   | (with_reducible refine LeO.bind ?_ (fun _ => ?_))
   | exact ih0 _ _
   | exact impl_themeCode.mono _ _ _ _
   | exact slices_Equal_int64_int64.mono _ _ _
   | exact LeO.none _
   | refine LeO.ite ?_ ?_
   | refine LeO.bind ?_ (fun _ => ?_)
set_option maxHeartbeats 8000000 in
set_option maxRecDepth 100000 in
theorem impl_PeriodOf.calls (k : Nat) (A0 : Option Addr) (c0 : Nat) (l0 : List (S93)) (A1 : Option Addr) (c1 : Nat) (l1 : List Int) (r1 : Int) (r2 : Int) (w : World) (hr0 : Kd.C k93 w A0 l0.length l0) (hc0 : l0.length ≤ c0) (hr1 : Kd.C (Kd.int .i64) w A1 l1.length l1) (hc1 : l1.length ≤ c1) (h : impl_PeriodOf.f k l0 l1 = some (r1, r2)) :
  Calls Try.prog 12 #[.slice A0 l0.length c0, .slice A1 l1.length c1] w fun e w' => e = .returned (.tuple #[.int .i64 r1, .int .i64 r2]) ∧ Below w.heap.size w w' := by
 have HR0 := Aside0.mk hr0;have HC0 := Aside0.mk hc0;clear hr0 hc0;have HR1 := Aside0.mk hr1;have HC1 := Aside0.mk hc1;clear hr1 hc1;have HB := Aside0.mk (Below.refl w.heap.size w);have H : ((impl_themeCode.f k l0 l1 1).bind fun t325 => (if t325 = 0 then (impl_PeriodOf.l0 k l1 1) else (some (0, t325)))) = some (r1, r2) := h;clear h;replace H := Option.bind_eq_some_iff.mp H;obtain ⟨t325, A30, H⟩ := H;replace H : (if t325 = 0 then (impl_PeriodOf.l0 k l1 1) else (some (0, t325))) = some (r1, r2) := H;have A3 := Aside0.mk A30;clear A30;by_cases c4 : t325 = 0;rotate_left
 ·rw [if_neg c4] at H
  have c4b0 : (t325 == 0) = false := beq_eq_false_iff_ne.mpr c4;have c4b1 : (t325 != 0) = true := bne_iff_ne.mpr c4;simp only [Option.some.injEq, Prod.mk.injEq] at H;obtain ⟨rfl, rfl⟩ := H;go_enter Try.func12, Try.ntmps12;go_wp2_with (first | (go_at_call 49; (with_reducible refine (impl_themeCode.calls k _ _ l0 _ _ l1 1 t325 _ ?side1 ?side2 ?side3 ?side4 A3.out).mono ?_); (case side1 => repeat (first | exact HR0.out | (with_reducible refine Kd.C_alloc ?_ _) | (with_reducible refine Kd.C_drewN ?_ _) | (with_reducible refine Kd.C_drew ?_))); (case side2 => exact HC0.out); (case side3 => repeat (first | exact HR1.out | (with_reducible refine Kd.C_alloc ?_ _) | (with_reducible refine Kd.C_drewN ?_ _) | (with_reducible refine Kd.C_drew ?_))); (case side4 => exact HC1.out); rintro e w17 ⟨rfl, hb⟩; have n0_ := Aside0.mk (below_step (by repeat (first | exact HB.out | apply below_alloc | apply pw_below_drewN | apply below_drew1)) hb); clear HB; have HB := n0_; clear n0_; (try clear hb); (try clear hb2); (try clear hk); (try clear hi)));(repeat (go_quiet (first | (go_at_call 49; (with_reducible refine (impl_themeCode.calls k _ _ l0 _ _ l1 1 t325 _ ?side1 ?side2 ?side3 ?side4 A3.out).mono ?_); (case side1 => repeat (first | exact HR0.out | (with_reducible refine Kd.C_alloc ?_ _) | (with_reducible refine Kd.C_drewN ?_ _) | (with_reducible refine Kd.C_drew ?_))); (case side2 => exact HC0.out); (case side3 => repeat (first | exact HR1.out | (with_reducible refine Kd.C_alloc ?_ _) | (with_reducible refine Kd.C_drewN ?_ _) | (with_reducible refine Kd.C_drew ?_))); (case side4 => exact HC1.out); rintro e w17 ⟨rfl, hb⟩; have n0_ := Aside0.mk (below_step (by repeat (first | exact HB.out | apply below_alloc | apply pw_below_drewN | apply below_drew1)) hb); clear HB; have HB := n0_; clear n0_; (try clear hb); (try clear hb2); (try clear hk); (try clear hi))); try go_wp2_with (first | (go_at_call 49; (with_reducible refine (impl_themeCode.calls k _ _ l0 _ _ l1 1 t325 _ ?side1 ?side2 ?side3 ?side4 A3.out).mono ?_); (case side1 => repeat (first | exact HR0.out | (with_reducible refine Kd.C_alloc ?_ _) | (with_reducible refine Kd.C_drewN ?_ _) | (with_reducible refine Kd.C_drew ?_))); (case side2 => exact HC0.out); (case side3 => repeat (first | exact HR1.out | (with_reducible refine Kd.C_alloc ?_ _) | (with_reducible refine Kd.C_drewN ?_ _) | (with_reducible refine Kd.C_drew ?_))); (case side4 => exact HC1.out); rintro e w17 ⟨rfl, hb⟩; have n0_ := Aside0.mk (below_step (by repeat (first | exact HB.out | apply below_alloc | apply pw_below_drewN | apply below_drew1)) hb); clear HB; have HB := n0_; clear n0_; (try clear hb); (try clear hb2); (try clear hk); (try clear hi)))))
  go_ret2;exact ⟨by first | rfl | (simp [errW_none, errW_some] <;> rfl) | (simp [*, errW_none, errW_some] <;> rfl), by repeat (first | exact HB.out | apply below_alloc | apply pw_below_drewN | apply below_drew1)⟩
 rw [if_pos c4] at H;have c4b0 : (t325 == 0) = true := beq_iff_eq.mpr c4;have c4b1 : (t325 != 0) = false := bne_eq_false_iff_eq.mpr c4;clear c4;have H' := Aside0.mk H;clear H;go_enter Try.func12, Try.ntmps12;go_wp2_with (first | (go_at_call 49; (with_reducible refine (impl_themeCode.calls k _ _ l0 _ _ l1 1 t325 _ ?side1 ?side2 ?side3 ?side4 A3.out).mono ?_); (case side1 => repeat (first | exact HR0.out | (with_reducible refine Kd.C_alloc ?_ _) | (with_reducible refine Kd.C_drewN ?_ _) | (with_reducible refine Kd.C_drew ?_))); (case side2 => exact HC0.out); (case side3 => repeat (first | exact HR1.out | (with_reducible refine Kd.C_alloc ?_ _) | (with_reducible refine Kd.C_drewN ?_ _) | (with_reducible refine Kd.C_drew ?_))); (case side4 => exact HC1.out); rintro e w5 ⟨rfl, hb⟩; have n0_ := Aside0.mk (below_step (by repeat (first | exact HB.out | apply below_alloc | apply pw_below_drewN | apply below_drew1)) hb); clear HB; have HB := n0_; clear n0_; (try clear hb); (try clear hb2); (try clear hk); (try clear hi)));(repeat (go_quiet (first | (go_at_call 49; (with_reducible refine (impl_themeCode.calls k _ _ l0 _ _ l1 1 t325 _ ?side1 ?side2 ?side3 ?side4 A3.out).mono ?_); (case side1 => repeat (first | exact HR0.out | (with_reducible refine Kd.C_alloc ?_ _) | (with_reducible refine Kd.C_drewN ?_ _) | (with_reducible refine Kd.C_drew ?_))); (case side2 => exact HC0.out); (case side3 => repeat (first | exact HR1.out | (with_reducible refine Kd.C_alloc ?_ _) | (with_reducible refine Kd.C_drewN ?_ _) | (with_reducible refine Kd.C_drew ?_))); (case side4 => exact HC1.out); rintro e w5 ⟨rfl, hb⟩; have n0_ := Aside0.mk (below_step (by repeat (first | exact HB.out | apply below_alloc | apply pw_below_drewN | apply below_drew1)) hb); clear HB; have HB := n0_; clear n0_; (try clear hb); (try clear hb2); (try clear hk); (try clear hi))); try go_wp2_with (first | (go_at_call 49; (with_reducible refine (impl_themeCode.calls k _ _ l0 _ _ l1 1 t325 _ ?side1 ?side2 ?side3 ?side4 A3.out).mono ?_); (case side1 => repeat (first | exact HR0.out | (with_reducible refine Kd.C_alloc ?_ _) | (with_reducible refine Kd.C_drewN ?_ _) | (with_reducible refine Kd.C_drew ?_))); (case side2 => exact HC0.out); (case side3 => repeat (first | exact HR1.out | (with_reducible refine Kd.C_alloc ?_ _) | (with_reducible refine Kd.C_drewN ?_ _) | (with_reducible refine Kd.C_drew ?_))); (case side4 => exact HC1.out); rintro e w5 ⟨rfl, hb⟩; have n0_ := Aside0.mk (below_step (by repeat (first | exact HB.out | apply below_alloc | apply pw_below_drewN | apply below_drew1)) hb); clear HB; have HB := n0_; clear n0_; (try clear hb); (try clear hb2); (try clear hk); (try clear hi)))))
 go_loopg [7] k (fun kq v7 w' => ∃ (x7_1 : Int), v7 = .int .i64 x7_1 ∧ Aside0 (impl_PeriodOf.l0 kq l1 x7_1 = some (r1, r2)) ∧ Aside0 (kq ≤ k) ∧ Aside0 (Below w.heap.size w w'))
 case atStart => exact ⟨(1), (by first | rfl | (simp; done) | (simp [*]; done)), H', ⟨Nat.le_refl _⟩, ⟨by repeat (first | exact HB.out | apply below_alloc | apply pw_below_drewN | apply below_drew1)⟩⟩
 case round =>
  clear H';(try clear c1);(try clear p2);(try clear c4);(try clear c4b0);(try clear c4b1);obtain ⟨x7_1, rfl, HA, HK1, HB⟩ := hrel
  cases gk with
  | zero => exact absurd HA.out (by simp [impl_PeriodOf.l0])
  | succ k1 =>
   have H := HA.out;clear HA;simp only [impl_PeriodOf.l0] at H;by_cases c6 : 0 ≤ x7_1;rotate_left
   ·rw [if_neg c6] at H
    exact absurd H (by simp)
   rw [if_pos c6] at H;have c6b0 := eq_true c6;have c6b1 : decide (0 ≤ x7_1) = true := decide_eq_true c6;clear c6;by_cases c7 : x7_1 ≤ (l1.length : Int);rotate_left
   ·rw [if_neg c7] at H
    exact absurd H (by simp)
   rw [if_pos c7] at H;have c7b0 := eq_true c7;have c7b1 : decide (x7_1 ≤ (l1.length : Int)) = true := decide_eq_true c7;clear c7;obtain ⟨ji8, hji8⟩ : ∃ j_ : Int, (wrap64 ((l1.length : Int) - x7_1)) = j_ := ⟨_, rfl⟩
   replace H : (if 0 ≤ (ji8) then (if (ji8) ≤ (l1.length : Int) then ((slices_Equal_int64_int64.f k1 (l1.drop (x7_1 : Int).toNat) (l1.take ((ji8) : Int).toNat)).bind fun t328 => (if t328 = true then (some (x7_1, 0)) else (impl_PeriodOf.l0 k1 l1 (wrap64 (x7_1 + 1))))) else (none)) else (none)) = some (r1, r2) := by first | (rw [hji8] at H; exact H) | (simp only [hji8] at H ⊢; exact H)
   have hji8w : (IntKind.i64.wrap ((l1.length : Int) - x7_1)) = ji8 := (i64_w _).trans hji8;by_cases c9 : 0 ≤ (ji8);rotate_left
   ·rw [if_neg c9] at H
    exact absurd H (by simp)
   rw [if_pos c9] at H;have c9b0 := eq_true c9;have c9b1 : decide (0 ≤ (ji8)) = true := decide_eq_true c9;clear c9;by_cases c10 : (ji8) ≤ (l1.length : Int);rotate_left
   ·rw [if_neg c10] at H
    exact absurd H (by simp)
   rw [if_pos c10] at H;have c10b0 := eq_true c10;have c10b1 : decide ((ji8) ≤ (l1.length : Int)) = true := decide_eq_true c10;clear c10;replace H := Option.bind_eq_some_iff.mp H;obtain ⟨t328, A110, H⟩ := H;replace H : (if t328 = true then (some (x7_1, 0)) else (impl_PeriodOf.l0 k1 l1 (wrap64 (x7_1 + 1)))) = some (r1, r2) := H;have A11 := Aside0.mk A110;clear A110;by_cases c12 : t328 = true;rotate_left
   ·replace c12 := Bool.eq_false_iff.mpr c12
    subst c12
    have H1 : (impl_PeriodOf.l0 k1 l1 (wrap64 (x7_1 + 1))) = some (r1, r2) := by rw [if_neg (show ¬ (false = true) by decide)] at H; exact H
    clear H;have H := H1;clear H1;have H' := Aside0.mk H;clear H;obtain ⟨i015, hi015, _, hsz15, _⟩ := info_parts info2;obtain ⟨A15, hcut15, hA15, hC15⟩ := print_drop_of (P := Try.prog) (Value.int .i64) 0 25 2 .i64 Try.underlying25 hi015 hsz15 A1 c1 l1 x7_1 (of_decide_eq_true (by assumption)) (of_decide_eq_true (by assumption)) HC1.out;have HR326 := Aside0.mk (Kd.C_of_reads (h1 := fun _ => rfl) (hA15 _ (Kd.reads_of_C HR1.out)));have HC326 := Aside0.mk hC15;clear hA15 hC15 hi015 hsz15;obtain ⟨i016, hi016, _, hsz16, _⟩ := info_parts info2;obtain ⟨hcut16, hA16, hC16⟩ := print_take_of (P := Try.prog) (Value.int .i64) 0 25 2 .i64 Try.underlying25 hi016 hsz16 A1 c1 l1 (ji8) (of_decide_eq_true (by assumption)) (of_decide_eq_true (by assumption)) HC1.out;have HR327 := Aside0.mk (Kd.C_of_reads (h1 := fun _ => rfl) (hA16 _ (Kd.reads_of_C HR1.out)));have HC327 := Aside0.mk hC16;clear hA16 hC16 hi016 hsz16;go_wp2_with (first | (go_at_call 58; refine calls_of_args (args' := #[.slice A15 (l1.drop (x7_1 : Int).toNat).length (c1 - (x7_1 : Int).toNat), .slice A1 (l1.take ((ji8) : Int).toNat).length c1]) (by rw [List.length_drop, List.length_take, Nat.min_eq_left (by have := of_eq_true c10b0; omega)]) ?_; (with_reducible refine (slices_Equal_int64_int64.calls k1 _ _ (l1.drop (x7_1 : Int).toNat) _ _ (l1.take ((ji8) : Int).toNat) false _ ?side1 ?side2 ?side3 ?side4 A11.out).mono ?_); (case side1 => repeat (first | exact (Kd.C_below HR326.out HB.out) | (with_reducible refine Kd.C_alloc ?_ _) | (with_reducible refine Kd.C_drewN ?_ _) | (with_reducible refine Kd.C_drew ?_))); (case side2 => exact HC326.out); (case side3 => repeat (first | exact (Kd.C_below HR327.out HB.out) | (with_reducible refine Kd.C_alloc ?_ _) | (with_reducible refine Kd.C_drewN ?_ _) | (with_reducible refine Kd.C_drew ?_))); (case side4 => exact HC327.out); rintro e w' ⟨rfl, ⟨nd, rfl⟩⟩; (try first | exact ⟨rfl, _, World.drewN_drewN _ _ _⟩ | exact ⟨rfl, _, Eq.trans (World.drewN_drewN _ _ _) (congrArg (World.drewN _) (Nat.add_assoc _ _ _))⟩)))
    repeat (go_quiet (first | (go_at_call 58; refine calls_of_args (args' := #[.slice A15 (l1.drop (x7_1 : Int).toNat).length (c1 - (x7_1 : Int).toNat), .slice A1 (l1.take ((ji8) : Int).toNat).length c1]) (by rw [List.length_drop, List.length_take, Nat.min_eq_left (by have := of_eq_true c10b0; omega)]) ?_; (with_reducible refine (slices_Equal_int64_int64.calls k1 _ _ (l1.drop (x7_1 : Int).toNat) _ _ (l1.take ((ji8) : Int).toNat) false _ ?side1 ?side2 ?side3 ?side4 A11.out).mono ?_); (case side1 => repeat (first | exact (Kd.C_below HR326.out HB.out) | (with_reducible refine Kd.C_alloc ?_ _) | (with_reducible refine Kd.C_drewN ?_ _) | (with_reducible refine Kd.C_drew ?_))); (case side2 => exact HC326.out); (case side3 => repeat (first | exact (Kd.C_below HR327.out HB.out) | (with_reducible refine Kd.C_alloc ?_ _) | (with_reducible refine Kd.C_drewN ?_ _) | (with_reducible refine Kd.C_drew ?_))); (case side4 => exact HC327.out); rintro e w' ⟨rfl, ⟨nd, rfl⟩⟩; (try first | exact ⟨rfl, _, World.drewN_drewN _ _ _⟩ | exact ⟨rfl, _, Eq.trans (World.drewN_drewN _ _ _) (congrArg (World.drewN _) (Nat.add_assoc _ _ _))⟩))); try go_wp2_with (first | (go_at_call 58; refine calls_of_args (args' := #[.slice A15 (l1.drop (x7_1 : Int).toNat).length (c1 - (x7_1 : Int).toNat), .slice A1 (l1.take ((ji8) : Int).toNat).length c1]) (by rw [List.length_drop, List.length_take, Nat.min_eq_left (by have := of_eq_true c10b0; omega)]) ?_; (with_reducible refine (slices_Equal_int64_int64.calls k1 _ _ (l1.drop (x7_1 : Int).toNat) _ _ (l1.take ((ji8) : Int).toNat) false _ ?side1 ?side2 ?side3 ?side4 A11.out).mono ?_); (case side1 => repeat (first | exact (Kd.C_below HR326.out HB.out) | (with_reducible refine Kd.C_alloc ?_ _) | (with_reducible refine Kd.C_drewN ?_ _) | (with_reducible refine Kd.C_drew ?_))); (case side2 => exact HC326.out); (case side3 => repeat (first | exact (Kd.C_below HR327.out HB.out) | (with_reducible refine Kd.C_alloc ?_ _) | (with_reducible refine Kd.C_drewN ?_ _) | (with_reducible refine Kd.C_drew ?_))); (case side4 => exact HC327.out); rintro e w' ⟨rfl, ⟨nd, rfl⟩⟩; (try first | exact ⟨rfl, _, World.drewN_drewN _ _ _⟩ | exact ⟨rfl, _, Eq.trans (World.drewN_drewN _ _ _) (congrArg (World.drewN _) (Nat.add_assoc _ _ _))⟩))))
    go_roundg k1
    case measure => have := HK1.out; omega
    case rel => exact ⟨(wrap64 (x7_1 + 1)), (by first | rfl | (simp; done) | (simp [*]; done)), H', ⟨by have := HK1.out; omega⟩, ⟨by repeat (first | exact HB.out | apply below_alloc | apply pw_below_drewN | apply below_drew1)⟩⟩
   subst c12
   have H1 : (some (x7_1, 0)) = some (r1, r2) := by rw [if_pos rfl] at H; exact H
   clear H;have H := H1;clear H1;simp only [Option.some.injEq, Prod.mk.injEq] at H;obtain ⟨rfl, rfl⟩ := H;obtain ⟨i013, hi013, _, hsz13, _⟩ := info_parts info2;obtain ⟨A13, hcut13, hA13, hC13⟩ := print_drop_of (P := Try.prog) (Value.int .i64) 0 25 2 .i64 Try.underlying25 hi013 hsz13 A1 c1 l1 x7_1 (of_decide_eq_true (by assumption)) (of_decide_eq_true (by assumption)) HC1.out;have HR326 := Aside0.mk (Kd.C_of_reads (h1 := fun _ => rfl) (hA13 _ (Kd.reads_of_C HR1.out)));have HC326 := Aside0.mk hC13;clear hA13 hC13 hi013 hsz13;obtain ⟨i014, hi014, _, hsz14, _⟩ := info_parts info2;obtain ⟨hcut14, hA14, hC14⟩ := print_take_of (P := Try.prog) (Value.int .i64) 0 25 2 .i64 Try.underlying25 hi014 hsz14 A1 c1 l1 (ji8) (of_decide_eq_true (by assumption)) (of_decide_eq_true (by assumption)) HC1.out;have HR327 := Aside0.mk (Kd.C_of_reads (h1 := fun _ => rfl) (hA14 _ (Kd.reads_of_C HR1.out)));have HC327 := Aside0.mk hC14;clear hA14 hC14 hi014 hsz14;go_wp2_with (first | (go_at_call 58; refine calls_of_args (args' := #[.slice A13 (l1.drop (x7_1 : Int).toNat).length (c1 - (x7_1 : Int).toNat), .slice A1 (l1.take ((ji8) : Int).toNat).length c1]) (by rw [List.length_drop, List.length_take, Nat.min_eq_left (by have := of_eq_true c10b0; omega)]) ?_; (with_reducible refine (slices_Equal_int64_int64.calls k1 _ _ (l1.drop (x7_1 : Int).toNat) _ _ (l1.take ((ji8) : Int).toNat) true _ ?side1 ?side2 ?side3 ?side4 A11.out).mono ?_); (case side1 => repeat (first | exact (Kd.C_below HR326.out HB.out) | (with_reducible refine Kd.C_alloc ?_ _) | (with_reducible refine Kd.C_drewN ?_ _) | (with_reducible refine Kd.C_drew ?_))); (case side2 => exact HC326.out); (case side3 => repeat (first | exact (Kd.C_below HR327.out HB.out) | (with_reducible refine Kd.C_alloc ?_ _) | (with_reducible refine Kd.C_drewN ?_ _) | (with_reducible refine Kd.C_drew ?_))); (case side4 => exact HC327.out); rintro e w' ⟨rfl, ⟨nd, rfl⟩⟩; (try first | exact ⟨rfl, _, World.drewN_drewN _ _ _⟩ | exact ⟨rfl, _, Eq.trans (World.drewN_drewN _ _ _) (congrArg (World.drewN _) (Nat.add_assoc _ _ _))⟩)))
   repeat (go_quiet (first | (go_at_call 58; refine calls_of_args (args' := #[.slice A13 (l1.drop (x7_1 : Int).toNat).length (c1 - (x7_1 : Int).toNat), .slice A1 (l1.take ((ji8) : Int).toNat).length c1]) (by rw [List.length_drop, List.length_take, Nat.min_eq_left (by have := of_eq_true c10b0; omega)]) ?_; (with_reducible refine (slices_Equal_int64_int64.calls k1 _ _ (l1.drop (x7_1 : Int).toNat) _ _ (l1.take ((ji8) : Int).toNat) true _ ?side1 ?side2 ?side3 ?side4 A11.out).mono ?_); (case side1 => repeat (first | exact (Kd.C_below HR326.out HB.out) | (with_reducible refine Kd.C_alloc ?_ _) | (with_reducible refine Kd.C_drewN ?_ _) | (with_reducible refine Kd.C_drew ?_))); (case side2 => exact HC326.out); (case side3 => repeat (first | exact (Kd.C_below HR327.out HB.out) | (with_reducible refine Kd.C_alloc ?_ _) | (with_reducible refine Kd.C_drewN ?_ _) | (with_reducible refine Kd.C_drew ?_))); (case side4 => exact HC327.out); rintro e w' ⟨rfl, ⟨nd, rfl⟩⟩; (try first | exact ⟨rfl, _, World.drewN_drewN _ _ _⟩ | exact ⟨rfl, _, Eq.trans (World.drewN_drewN _ _ _) (congrArg (World.drewN _) (Nat.add_assoc _ _ _))⟩))); try go_wp2_with (first | (go_at_call 58; refine calls_of_args (args' := #[.slice A13 (l1.drop (x7_1 : Int).toNat).length (c1 - (x7_1 : Int).toNat), .slice A1 (l1.take ((ji8) : Int).toNat).length c1]) (by rw [List.length_drop, List.length_take, Nat.min_eq_left (by have := of_eq_true c10b0; omega)]) ?_; (with_reducible refine (slices_Equal_int64_int64.calls k1 _ _ (l1.drop (x7_1 : Int).toNat) _ _ (l1.take ((ji8) : Int).toNat) true _ ?side1 ?side2 ?side3 ?side4 A11.out).mono ?_); (case side1 => repeat (first | exact (Kd.C_below HR326.out HB.out) | (with_reducible refine Kd.C_alloc ?_ _) | (with_reducible refine Kd.C_drewN ?_ _) | (with_reducible refine Kd.C_drew ?_))); (case side2 => exact HC326.out); (case side3 => repeat (first | exact (Kd.C_below HR327.out HB.out) | (with_reducible refine Kd.C_alloc ?_ _) | (with_reducible refine Kd.C_drewN ?_ _) | (with_reducible refine Kd.C_drew ?_))); (case side4 => exact HC327.out); rintro e w' ⟨rfl, ⟨nd, rfl⟩⟩; (try first | exact ⟨rfl, _, World.drewN_drewN _ _ _⟩ | exact ⟨rfl, _, Eq.trans (World.drewN_drewN _ _ _) (congrArg (World.drewN _) (Nat.add_assoc _ _ _))⟩))))
   go_ret2;exact ⟨by first | rfl | (simp [errW_none, errW_some] <;> rfl) | (simp only [← hji8]; first | rfl | (simp [errW_none, errW_some] <;> rfl)) | (simp [*, errW_none, errW_some] <;> rfl), by repeat (first | exact HB.out | apply below_alloc | apply pw_below_drewN | apply below_drew1)⟩

/-! ### impl_indexValid_int64: function 100 -/
def impl_indexValid_int64.f (l0 : List (List Int)) (a1 : Int) : Option (Bool) := (impl_within.f a1 0 (wrap64 ((l0.length : Int) - 1))).bind fun t329 => (some t329)
set_option maxHeartbeats 8000000 in
set_option maxRecDepth 100000 in
theorem impl_indexValid_int64.calls (A0 : Option Addr) (c0 : Nat) (l0 : List (List Int)) (a1 : Int) (r : Bool) (w : World) (hr0 : Kd.C (Kd.slice 2 (Kd.int .i64)) w A0 l0.length l0) (hc0 : l0.length ≤ c0) (h : impl_indexValid_int64.f l0 a1 = some r) :
  Calls Try.prog 100 #[.slice A0 l0.length c0, .int .i64 a1] w fun e w' => e = .returned (.bool r) ∧ Drawn0 w w' := by
 have HR0 := Aside0.mk hr0;have HC0 := Aside0.mk hc0;clear hr0 hc0;have H : ((impl_within.f a1 0 (wrap64 ((l0.length : Int) - 1))).bind fun t329 => (some t329)) = some r := h;clear h;replace H := Option.bind_eq_some_iff.mp H;obtain ⟨t329, A30, H⟩ := H;replace H : (some t329) = some r := H;have A3 := Aside0.mk A30;clear A30;obtain rfl := Option.some.inj H;go_enter Try.func100, Try.ntmps100;go_wp2_with (first | ((with_reducible refine gate_callee (f := 95) rfl ?_); refine goesL_ (some 9) rfl rfl Try.func95 (by kernel_rfl) rfl #[.int .i64 a1, .int .i64 0, .int .i64 (wrap64 ((l0.length : Int) - 1))] rfl (by (try simp only [List.map_toArray, List.map_cons, List.map_nil]); first | done | rfl | (simp only [List.length_drop, List.length_take]; rfl)) ?_; (with_reducible refine (impl_within.calls a1 0 (wrap64 ((l0.length : Int) - 1)) t329 _ A3.out).mono ?_); rintro e w' ⟨rfl, ⟨nd, rfl⟩⟩; refine ⟨_, rfl, ?_⟩));go_ret;exact ⟨by first | rfl | (simp; done) | (simp [*]; done), by repeat (first | exact Drawn0.refl _ | apply Drawn0.step)⟩

/-! ### impl_orderOk_int64: function 59 -/
def impl_orderOk_int64.l0 : Nat → List (List Int) → List Int → List Int → Int → Int → Option (Bool)
 | 0, _, _, _, _, _ => none
 | k + 1, x0, x1, x7, x8, x9 => if x9 < x8 then (if 0 ≤ x9 then (if x9 < (x7.length : Int) then ((impl_indexValid_int64.f x0 (rd x7 x9)).bind fun t331 => (if t331 = true then (if x9 ≤ (x1.length : Int) then ((slices_Contains_int64_int64.f k (x1.take (x9 : Int).toNat) (rd x7 x9)).bind fun t333 => (if t333 = true then (some false) else (impl_orderOk_int64.l0 k x0 x1 x7 x8 (wrap64 (x9 + 1))))) else (none)) else (some false))) else (none)) else (none)) else (some true)
def impl_orderOk_int64.f (k : Nat) (l0 : List (List Int)) (l1 : List Int) : Option (Bool) := impl_orderOk_int64.l0 k l0 l1 l1 (l1.length : Int) 0
theorem impl_orderOk_int64.mono_l : ∀ k, (∀ y0 y1 y2 y3 y4, LeO (impl_orderOk_int64.l0 k y0 y1 y2 y3 y4) (impl_orderOk_int64.l0 (k + 1) y0 y1 y2 y3 y4))
 | 0 => fun _ _ _ _ _ r h => by simp [impl_orderOk_int64.l0] at h
 | k + 1 => by
  have ih0 := impl_orderOk_int64.mono_l k
  ·intro y0 y1 y2 y3 y4
   unfold impl_orderOk_int64.l0
   repeat' first
   | (with_reducible exact ih0 _ _ _ _ _)
   | (with_reducible exact slices_Contains_int64_int64.mono _ _ _)
   | (with_reducible exact LeO.refl _)
   | (with_reducible exact LeO.none _)
   | (with_reducible refine LeO.ite ?_ ?_)
   | (with_reducible refine LeO.bind ?_ (fun _ => ?_))
   | exact ih0 _ _ _ _ _
   | exact slices_Contains_int64_int64.mono _ _ _
   | exact LeO.none _
   | refine LeO.ite ?_ ?_
   | refine LeO.bind ?_ (fun _ => ?_)
theorem impl_orderOk_int64.mono : ∀ a0 a1 k, LeO (impl_orderOk_int64.f k a0 a1) (impl_orderOk_int64.f (k + 1) a0 a1) := by
 intro a0 a1 k;have ih0 := impl_orderOk_int64.mono_l k;unfold impl_orderOk_int64.f
 repeat' first
   | (with_reducible exact ih0 _ _ _ _ _)
   | (with_reducible exact slices_Contains_int64_int64.mono _ _ _)
   | (with_reducible exact LeO.refl _)
   | (with_reducible exact LeO.none _)
   | (with_reducible refine LeO.ite ?_ ?_)
   | (with_reducible refine LeO.bind ?_ (fun _ => ?_))
   | exact ih0 _ _ _ _ _
   | exact slices_Contains_int64_int64.mono _ _ _
   | exact LeO.none _
   | refine LeO.ite ?_ ?_
   | refine LeO.bind ?_ (fun _ => ?_)
set_option maxHeartbeats 8000000 in
set_option maxRecDepth 100000 in
theorem impl_orderOk_int64.calls (k : Nat) (A0 : Option Addr) (c0 : Nat) (l0 : List (List Int)) (A1 : Option Addr) (c1 : Nat) (l1 : List Int) (r : Bool) (w : World) (hr0 : Kd.C (Kd.slice 2 (Kd.int .i64)) w A0 l0.length l0) (hc0 : l0.length ≤ c0) (hr1 : Kd.C (Kd.int .i64) w A1 l1.length l1) (hc1 : l1.length ≤ c1) (h : impl_orderOk_int64.f k l0 l1 = some r) :
  Calls Try.prog 59 #[.slice A0 l0.length c0, .slice A1 l1.length c1] w fun e w' => e = .returned (.bool r) ∧ Drawn0 w w' := by
 have HR0 := Aside0.mk hr0;have HC0 := Aside0.mk hc0;clear hr0 hc0;have HR1 := Aside0.mk hr1;have HC1 := Aside0.mk hc1;clear hr1 hc1;have H : (impl_orderOk_int64.l0 k l0 l1 l1 (l1.length : Int) 0) = some r := h;clear h;have H' := Aside0.mk H;clear H;go_enter Try.func59, Try.ntmps59;go_wp2;go_loopg [9] k (fun kq v9 w' => ∃ (x9_1 : Int), v9 = .int .i64 x9_1 ∧ Aside0 (impl_orderOk_int64.l0 kq l0 l1 l1 (l1.length : Int) x9_1 = some r) ∧ Aside0 (kq ≤ k) ∧ Drawn0 w w')
 case atStart => exact ⟨(0), (by first | rfl | (simp; done) | (simp [*]; done)), H', ⟨Nat.le_refl _⟩, by repeat (first | exact Drawn0.refl _ | apply Drawn0.step)⟩
 case round =>
  clear H';(try clear c1);(try clear p2);obtain ⟨x9_1, rfl, HA, HK1, ⟨m1, rfl⟩⟩ := hrel
  cases gk with
  | zero => exact absurd HA.out (by simp [impl_orderOk_int64.l0])
  | succ k1 =>
   have H := HA.out;clear HA;simp only [impl_orderOk_int64.l0] at H;by_cases c3 : x9_1 < (l1.length : Int);rotate_left
   ·rw [if_neg c3] at H
    have c3b0 : decide (x9_1 < (l1.length : Int)) = false := decide_eq_false c3;clear c3;obtain rfl := Option.some.inj H;go_wp2;go_ret;exact ⟨by first | rfl | (simp; done) | (simp [*]; done), by repeat (first | exact Drawn0.refl _ | apply Drawn0.step)⟩
   rw [if_pos c3] at H;have c3b0 : decide (x9_1 < (l1.length : Int)) = true := decide_eq_true c3;clear c3;by_cases c4 : 0 ≤ x9_1;rotate_left
   ·rw [if_neg c4] at H
    exact absurd H (by simp)
   rw [if_pos c4] at H;have c4b0 : decide (0 ≤ x9_1) = true := decide_eq_true c4;clear c4;by_cases c5 : x9_1 < (l1.length : Int);rotate_left
   ·rw [if_neg c5] at H
    exact absurd H (by simp)
   rw [if_pos c5] at H;have c5b0 : decide (x9_1 < (l1.length : Int)) = true := decide_eq_true c5;clear c5;replace H := Option.bind_eq_some_iff.mp H;obtain ⟨t331, A60, H⟩ := H;replace H : (if t331 = true then (if x9_1 ≤ (l1.length : Int) then ((slices_Contains_int64_int64.f k1 (l1.take (x9_1 : Int).toNat) (rd l1 x9_1)).bind fun t333 => (if t333 = true then (some false) else (impl_orderOk_int64.l0 k1 l0 l1 l1 (l1.length : Int) (wrap64 (x9_1 + 1))))) else (none)) else (some false)) = some r := H;have A6 := Aside0.mk A60;clear A60;by_cases c7 : t331 = true;rotate_left
   ·replace c7 := Bool.eq_false_iff.mpr c7
    subst c7
    have H1 : (some false) = some r := by rw [if_neg (show ¬ (false = true) by decide)] at H; exact H
    clear H;have H := H1;clear H1;obtain rfl := Option.some.inj H;have p330 : 0 ≤ (x9_1 : Int) := of_decide_eq_true (by assumption);have q330 : x9_1 < (l1.length : Int) := of_decide_eq_true (by assumption);obtain ⟨ad330, e330, hx330_0⟩ := Kd.at_int HR1.out x9_1 p330 q330
    cases e330
    replace p330 := eq_true p330;replace q330 := eq_true q330;go_wp2_with (first | ((with_reducible refine gate_callee (f := 100) rfl ?_); refine goesL_ (some 16) rfl rfl Try.func100 (by kernel_rfl) rfl #[.slice A0 l0.length c0, .int .i64 (rd l1 x9_1)] rfl (by (try simp only [List.map_toArray, List.map_cons, List.map_nil]); first | done | rfl | (simp only [List.length_drop, List.length_take]; rfl)) ?_; (with_reducible refine (impl_indexValid_int64.calls _ _ l0 (rd l1 x9_1) false _ ?side1 ?side2 A6.out).mono ?_); (case side1 => repeat (first | exact HR0.out | (with_reducible refine Kd.C_alloc ?_ _) | (with_reducible refine Kd.C_drewN ?_ _) | (with_reducible refine Kd.C_drew ?_))); (case side2 => exact HC0.out); rintro e w' ⟨rfl, ⟨nd, rfl⟩⟩; refine ⟨_, rfl, ?_⟩));go_ret;exact ⟨by first | rfl | (simp; done) | (simp [*]; done), by repeat (first | exact Drawn0.refl _ | apply Drawn0.step)⟩
   subst c7
   have H1 : (if x9_1 ≤ (l1.length : Int) then ((slices_Contains_int64_int64.f k1 (l1.take (x9_1 : Int).toNat) (rd l1 x9_1)).bind fun t333 => (if t333 = true then (some false) else (impl_orderOk_int64.l0 k1 l0 l1 l1 (l1.length : Int) (wrap64 (x9_1 + 1))))) else (none)) = some r := by rw [if_pos rfl] at H; exact H
   clear H;have H := H1;clear H1;have c8b0 := eq_true (of_decide_eq_true (by assumption) : 0 ≤ x9_1);by_cases c9 : x9_1 ≤ (l1.length : Int);rotate_left
   ·rw [if_neg c9] at H
    exact absurd H (by simp)
   rw [if_pos c9] at H;have c9b0 := eq_true c9;have c9b1 : decide (x9_1 ≤ (l1.length : Int)) = true := decide_eq_true c9;clear c9;replace H := Option.bind_eq_some_iff.mp H;obtain ⟨t333, A100, H⟩ := H;replace H : (if t333 = true then (some false) else (impl_orderOk_int64.l0 k1 l0 l1 l1 (l1.length : Int) (wrap64 (x9_1 + 1)))) = some r := H;have A10 := Aside0.mk A100;clear A100;by_cases c11 : t333 = true;rotate_left
   ·replace c11 := Bool.eq_false_iff.mpr c11
    subst c11
    have H1 : (impl_orderOk_int64.l0 k1 l0 l1 l1 (l1.length : Int) (wrap64 (x9_1 + 1))) = some r := by rw [if_neg (show ¬ (false = true) by decide)] at H; exact H
    clear H;have H := H1;clear H1;have H' := Aside0.mk H;clear H;have p330 : 0 ≤ (x9_1 : Int) := of_decide_eq_true (by assumption);have q330 : x9_1 < (l1.length : Int) := of_decide_eq_true (by assumption);obtain ⟨ad330, e330, hx330_0⟩ := Kd.at_int HR1.out x9_1 p330 q330
    cases e330
    replace p330 := eq_true p330;replace q330 := eq_true q330;go_wp2_with (first | ((with_reducible refine gate_callee (f := 100) rfl ?_); refine goesL_ (some 16) rfl rfl Try.func100 (by kernel_rfl) rfl #[.slice A0 l0.length c0, .int .i64 (rd l1 x9_1)] rfl (by (try simp only [List.map_toArray, List.map_cons, List.map_nil]); first | done | rfl | (simp only [List.length_drop, List.length_take]; rfl)) ?_; (with_reducible refine (impl_indexValid_int64.calls _ _ l0 (rd l1 x9_1) true _ ?side1 ?side2 A6.out).mono ?_); (case side1 => repeat (first | exact HR0.out | (with_reducible refine Kd.C_alloc ?_ _) | (with_reducible refine Kd.C_drewN ?_ _) | (with_reducible refine Kd.C_drew ?_))); (case side2 => exact HC0.out); rintro e w' ⟨rfl, ⟨nd, rfl⟩⟩; refine ⟨_, rfl, ?_⟩; obtain ⟨i013, hi013, _, hsz13, _⟩ := info_parts info2; obtain ⟨hcut13, hA13, hC13⟩ := print_take_of (P := Try.prog) (Value.int .i64) 0 25 2 .i64 Try.underlying25 hi013 hsz13 (some ad330) c1 l1 x9_1 (of_decide_eq_true (by assumption)) (of_decide_eq_true (by assumption)) HC1.out; have HR332 := Aside0.mk (Kd.C_of_reads (h1 := fun _ => rfl) (hA13 _ (Kd.reads_of_C HR1.out))); have HC332 := Aside0.mk hC13; clear hA13 hC13 hi013 hsz13) | (go_at_call 57; refine calls_of_args (args' := #[.slice (some ad330) (l1.take (x9_1 : Int).toNat).length c1, .int .i64 (rd l1 x9_1)]) (by first | with_reducible rfl | rfl | (rw [List.length_take, Nat.min_eq_left (by have h_ : x9_1 ≤ (l1.length : Int) := of_decide_eq_true (by assumption); omega)])) ?_; (with_reducible refine (slices_Contains_int64_int64.calls k1 _ _ (l1.take (x9_1 : Int).toNat) (rd l1 x9_1) false _ ?side1 ?side2 A10.out).mono ?_); (case side1 => repeat (first | exact HR332.out | (with_reducible refine Kd.C_alloc ?_ _) | (with_reducible refine Kd.C_drewN ?_ _) | (with_reducible refine Kd.C_drew ?_))); (case side2 => exact HC332.out); rintro e w' ⟨rfl, ⟨nd, rfl⟩⟩))
    go_roundg k1
    case measure => have := HK1.out; omega
    case rel => exact ⟨(wrap64 (x9_1 + 1)), (by first | rfl | (simp; done) | (simp [*]; done)), H', ⟨by have := HK1.out; omega⟩, by repeat (first | exact Drawn0.refl _ | apply Drawn0.step)⟩
   subst c11
   have H1 : (some false) = some r := by rw [if_pos rfl] at H; exact H
   clear H;have H := H1;clear H1;obtain rfl := Option.some.inj H;have p330 : 0 ≤ (x9_1 : Int) := of_decide_eq_true (by assumption);have q330 : x9_1 < (l1.length : Int) := of_decide_eq_true (by assumption);obtain ⟨ad330, e330, hx330_0⟩ := Kd.at_int HR1.out x9_1 p330 q330
   cases e330
   replace p330 := eq_true p330;replace q330 := eq_true q330;go_wp2_with (first | ((with_reducible refine gate_callee (f := 100) rfl ?_); refine goesL_ (some 16) rfl rfl Try.func100 (by kernel_rfl) rfl #[.slice A0 l0.length c0, .int .i64 (rd l1 x9_1)] rfl (by (try simp only [List.map_toArray, List.map_cons, List.map_nil]); first | done | rfl | (simp only [List.length_drop, List.length_take]; rfl)) ?_; (with_reducible refine (impl_indexValid_int64.calls _ _ l0 (rd l1 x9_1) true _ ?side1 ?side2 A6.out).mono ?_); (case side1 => repeat (first | exact HR0.out | (with_reducible refine Kd.C_alloc ?_ _) | (with_reducible refine Kd.C_drewN ?_ _) | (with_reducible refine Kd.C_drew ?_))); (case side2 => exact HC0.out); rintro e w' ⟨rfl, ⟨nd, rfl⟩⟩; refine ⟨_, rfl, ?_⟩; obtain ⟨i012, hi012, _, hsz12, _⟩ := info_parts info2; obtain ⟨hcut12, hA12, hC12⟩ := print_take_of (P := Try.prog) (Value.int .i64) 0 25 2 .i64 Try.underlying25 hi012 hsz12 (some ad330) c1 l1 x9_1 (of_decide_eq_true (by assumption)) (of_decide_eq_true (by assumption)) HC1.out; have HR332 := Aside0.mk (Kd.C_of_reads (h1 := fun _ => rfl) (hA12 _ (Kd.reads_of_C HR1.out))); have HC332 := Aside0.mk hC12; clear hA12 hC12 hi012 hsz12) | (go_at_call 57; refine calls_of_args (args' := #[.slice (some ad330) (l1.take (x9_1 : Int).toNat).length c1, .int .i64 (rd l1 x9_1)]) (by first | with_reducible rfl | rfl | (rw [List.length_take, Nat.min_eq_left (by have h_ : x9_1 ≤ (l1.length : Int) := of_decide_eq_true (by assumption); omega)])) ?_; (with_reducible refine (slices_Contains_int64_int64.calls k1 _ _ (l1.take (x9_1 : Int).toNat) (rd l1 x9_1) true _ ?side1 ?side2 A10.out).mono ?_); (case side1 => repeat (first | exact HR332.out | (with_reducible refine Kd.C_alloc ?_ _) | (with_reducible refine Kd.C_drewN ?_ _) | (with_reducible refine Kd.C_drew ?_))); (case side2 => exact HC332.out); rintro e w' ⟨rfl, ⟨nd, rfl⟩⟩))
   go_ret;exact ⟨by first | rfl | (simp; done) | (simp [*]; done), by repeat (first | exact Drawn0.refl _ | apply Drawn0.step)⟩

end Go.Proofs.Ytagjleeckbnddaa.PFnThemes
