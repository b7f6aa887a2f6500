-- written by xprint.py, a program of this repo over the kit's print; not trusted: Lean checks it
import Derived.Test.YtfledgccnaknpaaPFnTimesx0
import Derived.Test.YtfledgccnaknpaaPFnTimesx1
import Derived.Test.YtfledgccnaknpaaPFnTimesx2
import Derived.Test.YtfledgccnaknpaaPFnTimesx3
import Derived.Test.YtfledgccnaknpaaPFnTimesx4
import Derived.Test.YtfledgccnaknpaaPFnTimesx6
namespace Go.Proofs.Ytfledgccnaknpaa.PFnTimes
open Go.RowKit Go.Proofs.YtfledgccnaknpaaW.PrintWords Go.Proofs.YtfledgccnaknpaaW.PrintLast Go.Proofs.YtfledgccnaknpaaW.PrintMore
attribute [local go_sem] max2_int min2_int max_two min_two max_three min_three max_four min_four   -- for this text's walks alone
set_option linter.unusedVariables false
set_option linter.unusedSimpArgs false

/-! ### impl_BeatTime: function 49 -/
def impl_BeatTime.f (a0 : Int) : Option (Int × Int) := (impl_tempoOk.f a0).bind fun t310 => (if t310 = true then ((impl_beatTime.f a0).bind fun t311 => (some (t311, 0))) else (some (0, 2)))
set_option maxHeartbeats 8000000 in
set_option maxRecDepth 100000 in
theorem impl_BeatTime.calls (a0 : Int) (r1 : Int) (r2 : Int) (w : World) (h : impl_BeatTime.f a0 = some (r1, r2)) :
  Calls Try.prog 49 #[.int .i64 a0] w fun e w' => e = .returned (.tuple #[.int .i64 r1, .int .i64 r2]) ∧ Below w.heap.size w w' := by
 have HB := Aside0.mk (Below.refl w.heap.size w)
 have H : ((impl_tempoOk.f a0).bind fun t310 => (if t310 = true then ((impl_beatTime.f a0).bind fun t311 => (some (t311, 0))) else (some (0, 2)))) = some (r1, r2) := h
 clear h
 replace H := Option.bind_eq_some_iff.mp H
 obtain ⟨t310, A20, H⟩ := H
 replace H : (if t310 = true then ((impl_beatTime.f a0).bind fun t311 => (some (t311, 0))) else (some (0, 2))) = some (r1, r2) := H
 have A2 := Aside0.mk A20
 clear A20
 by_cases c3 : t310 = true
 ·subst c3
  have H1 : ((impl_beatTime.f a0).bind fun t311 => (some (t311, 0))) = some (r1, r2) := by rw [if_pos rfl] at H; exact H
  clear H
  have H := H1
  clear H1
  replace H := Option.bind_eq_some_iff.mp H
  obtain ⟨t311, A40, H⟩ := H
  replace H : (some (t311, 0)) = some (r1, r2) := H
  have A4 := Aside0.mk A40
  clear A40
  simp only [Option.some.injEq, Prod.mk.injEq] at H
  obtain ⟨rfl, rfl⟩ := H
  go_enter Try.func49, Try.ntmps49
  go_wp2_with (first | ((with_reducible refine gate_callee (f := 128) rfl ?_); refine goesL_ (some 5) rfl rfl Try.func128 (by kernel_rfl) rfl #[.int .i64 a0] rfl (by (try simp only [List.map_toArray, List.map_cons, List.map_nil]); first | done | rfl | (simp only [List.length_drop, List.length_take]; rfl)) ?_; (with_reducible refine (impl_tempoOk.calls a0 true _ A2.out).mono ?_); rintro e w' ⟨rfl, ⟨nd, rfl⟩⟩; refine ⟨_, rfl, ?_⟩) | ((with_reducible refine gate_callee (f := 127) rfl ?_); refine goesL_ (some 8) rfl rfl Try.func127 (by kernel_rfl) rfl #[.int .i64 a0] rfl (by (try simp only [List.map_toArray, List.map_cons, List.map_nil]); first | done | rfl | (simp only [List.length_drop, List.length_take]; rfl)) ?_; (with_reducible refine (impl_beatTime.calls a0 t311 _ A4.out).mono ?_); rintro e w5 ⟨rfl, hb⟩; refine ⟨_, rfl, ?_⟩; have n0_ := Aside0.mk (below_step (by repeat (first | (with_reducible first | exact HB.out | apply below_alloc | apply pw_below_drewN | apply below_drew1) | exact HB.out)) hb); clear HB; have HB := n0_; clear n0_; (try clear hb); (try clear hb2); (try clear hk); (try clear hi)))
  go_ret2
  exact ⟨by first | rfl | (simp [errW_none, errW_some] <;> rfl) | (simp [*, errW_none, errW_some] <;> rfl), by repeat (first | (with_reducible first | exact HB.out | apply below_alloc | apply pw_below_drewN | apply below_drew1) | exact HB.out)⟩
 ·replace c3 := Bool.eq_false_iff.mpr c3
  subst c3
  have H1 : (some (0, 2)) = some (r1, r2) := by rw [if_neg (show ¬ (false = true) by decide)] at H; exact H
  clear H
  have H := H1
  clear H1
  simp only [Option.some.injEq, Prod.mk.injEq] at H
  obtain ⟨rfl, rfl⟩ := H
  go_enter Try.func49, Try.ntmps49
  go_wp2_with (first | ((with_reducible refine gate_callee (f := 128) rfl ?_); refine goesL_ (some 5) rfl rfl Try.func128 (by kernel_rfl) rfl #[.int .i64 a0] rfl (by (try simp only [List.map_toArray, List.map_cons, List.map_nil]); first | done | rfl | (simp only [List.length_drop, List.length_take]; rfl)) ?_; (with_reducible refine (impl_tempoOk.calls a0 false _ A2.out).mono ?_); rintro e w' ⟨rfl, ⟨nd, rfl⟩⟩; refine ⟨_, rfl, ?_⟩))
  go_ret2
  exact ⟨by first | rfl | (simp [errW_none, errW_some] <;> rfl) | (simp [*, errW_none, errW_some] <;> rfl), by repeat (first | (with_reducible first | exact HB.out | apply below_alloc | apply pw_below_drewN | apply below_drew1) | exact HB.out)⟩

/-! ### laws_b10Abs: function 50 -/
def laws_b10Abs.f (a0 : Int) : Option (Int) := if a0 < 0 then (some (wrap64 (-a0))) else (some a0)
set_option maxHeartbeats 8000000 in
set_option maxRecDepth 100000 in
theorem laws_b10Abs.calls (a0 : Int) (r : Int) (w : World) (h : laws_b10Abs.f a0 = some r) :
  Calls Try.prog 50 #[.int .i64 a0] w fun e w' => e = .returned (.int .i64 r) ∧ Drawn0 w w' := by
 have H : (if a0 < 0 then (some (wrap64 (-a0))) else (some a0)) = some r := h
 clear h
 by_cases c2 : a0 < 0
 ·rw [if_pos c2] at H
  have c2b0 : decide (a0 < 0) = true := decide_eq_true c2
  clear c2
  obtain rfl := Option.some.inj H
  go_enter Try.func50, Try.ntmps50
  go_wp2
  go_ret
  exact ⟨by first | rfl | (simp; done) | (simp [*]; done), by repeat (first | exact Drawn0.refl _ | apply Drawn0.step)⟩
 ·rw [if_neg c2] at H
  have c2b0 : decide (a0 < 0) = false := decide_eq_false c2
  clear c2
  obtain rfl := Option.some.inj H
  go_enter Try.func50, Try.ntmps50
  go_wp2
  go_ret
  exact ⟨by first | rfl | (simp; done) | (simp [*]; done), by repeat (first | exact Drawn0.refl _ | apply Drawn0.step)⟩

/-! ### spec_DrawRampTo: function 51 -/
def spec_DrawRampTo.f (k : Nat) (l0 : List Int) : Option ((List (S141)) × Int × Int) := (spec_l00From.f l0).bind fun bt312 => ((spec_l22Draw.f k bt312.1 bt312.2.1 bt312.2.2).bind fun bt316 => ((spec_l22DrawBeat.f bt312.1 bt316.2.1 bt316.2.2).bind fun bt321 => ((spec_l00Src_among.f bt312.1 bt321.2.1 bt321.2.2 (([60, 120, 10, 600, 9, 601] : List Int))).bind fun bt327 => (some (bt316.1, bt321.1, bt327.1)))))
theorem spec_DrawRampTo.mono : ∀ a0 k, LeO (spec_DrawRampTo.f k a0) (spec_DrawRampTo.f (k + 1) a0) := by
 intro a0 k
 unfold spec_DrawRampTo.f
 repeat' first
   | (with_reducible exact spec_l22Draw.mono _ _ _ _)
   | (with_reducible exact LeO.refl _)
   | (with_reducible exact LeO.none _)
   | (with_reducible refine LeO.ite ?_ ?_)
   | (with_reducible refine LeO.bind ?_ (fun _ => ?_))
   | exact spec_l22Draw.mono _ _ _ _
   | exact LeO.none _
   | refine LeO.ite ?_ ?_
   | refine LeO.bind ?_ (fun _ => ?_)
set_option maxHeartbeats 8000000 in
set_option maxRecDepth 100000 in
theorem spec_DrawRampTo.calls (k : Nat) (A0 : Option Addr) (c0 : Nat) (l0 : List Int) (r1 : List (S141)) (r2 : Int) (r3 : Int) (w : World) (hr0 : Kd.C (Kd.int .u8) w A0 l0.length l0) (hc0 : l0.length ≤ c0) (h : spec_DrawRampTo.f k l0 = some (r1, r2, r3)) :
  Calls Try.prog 51 #[.slice A0 l0.length c0] w fun e w' => ∃ v0_ : Value, e = .returned (.tuple #[v0_, .int .i64 r2, .int .i64 r3]) ∧ Kd.R k141 141 w' w.heap.size (fun _ => True) v0_ r1 ∧ Below w.heap.size w w' := by
 have HR0 := Aside0.mk hr0
 have HC0 := Aside0.mk hc0
 clear hr0 hc0
 have HB := Aside0.mk (Below.refl w.heap.size w)
 have H : ((spec_l00From.f l0).bind fun bt312 => ((spec_l22Draw.f k bt312.1 bt312.2.1 bt312.2.2).bind fun bt316 => ((spec_l22DrawBeat.f bt312.1 bt316.2.1 bt316.2.2).bind fun bt321 => ((spec_l00Src_among.f bt312.1 bt321.2.1 bt321.2.2 (([60, 120, 10, 600, 9, 601] : List Int))).bind fun bt327 => (some (bt316.1, bt321.1, bt327.1)))))) = some (r1, r2, r3) := h
 clear h
 replace H := Option.bind_eq_some_iff.mp H
 obtain ⟨⟨t312, t313, t314⟩, A20, H⟩ := H
 replace H : ((spec_l22Draw.f k t312 t313 t314).bind fun bt316 => ((spec_l22DrawBeat.f t312 bt316.2.1 bt316.2.2).bind fun bt321 => ((spec_l00Src_among.f t312 bt321.2.1 bt321.2.2 (([60, 120, 10, 600, 9, 601] : List Int))).bind fun bt327 => (some (bt316.1, bt321.1, bt327.1))))) = some (r1, r2, r3) := H
 have A2 := Aside0.mk A20
 clear A20
 replace H := Option.bind_eq_some_iff.mp H
 obtain ⟨⟨t316, t319, t320⟩, A30, H⟩ := H
 replace H : ((spec_l22DrawBeat.f t312 t319 t320).bind fun bt321 => ((spec_l00Src_among.f t312 bt321.2.1 bt321.2.2 (([60, 120, 10, 600, 9, 601] : List Int))).bind fun bt327 => (some (t316, bt321.1, bt327.1)))) = some (r1, r2, r3) := H
 have A3 := Aside0.mk A30
 clear A30
 replace H := Option.bind_eq_some_iff.mp H
 obtain ⟨⟨t321, t322, t323⟩, A40, H⟩ := H
 replace H : ((spec_l00Src_among.f t312 t322 t323 (([60, 120, 10, 600, 9, 601] : List Int))).bind fun bt327 => (some (t316, t321, bt327.1))) = some (r1, r2, r3) := H
 have A4 := Aside0.mk A40
 clear A40
 obtain ⟨y324, hy324⟩ : ∃ y_ : List Int, y_ = (([60, 120, 10, 600, 9, 601] : List Int)) := ⟨_, rfl⟩
 replace H : ((spec_l00Src_among.f t312 t322 t323 y324).bind fun bt327 => (some (t316, t321, bt327.1))) = some (r1, r2, r3) := by first | (rw [hy324]; with_reducible exact H) | (have H2_ := (Option.bind_some _ _).symm.trans H; rw [hy324]; with_reducible exact H2_) | (have H2_ := (Option.bind_some _ _).symm.trans H; with_reducible exact H2_) | with_reducible exact H | (rw [hy324]; exact H) | exact H
 have Ny324 := Aside0.mk hy324
 clear hy324
 replace H := Option.bind_eq_some_iff.mp H
 obtain ⟨⟨t327, t328, t329⟩, A50, H⟩ := H
 replace H : (some (t316, t321, t327)) = some (r1, r2, r3) := H
 have A5 := Aside0.mk A50
 clear A50
 simp only [Option.some.injEq, Prod.mk.injEq] at H
 obtain ⟨rfl, rfl, rfl⟩ := H
 go_enter Try.func51, Try.ntmps51
 go_wp2_with (first | ((with_reducible refine gate_callee (f := 104) rfl ?_); refine goesL_ (some 9) rfl rfl Try.func104 (by kernel_rfl) rfl #[.slice A0 l0.length c0] rfl (by (try simp only [List.map_toArray, List.map_cons, List.map_nil]); first | done | rfl | (simp only [List.length_drop, List.length_take]; rfl)) ?_; (with_reducible refine (spec_l00From.calls _ _ l0 t312 t313 t314 w _ ?side1 ?side2 ?side3 A2.out).mono ?_); (case side1 => repeat (first | (with_reducible first | exact HB.out | apply below_alloc | apply pw_below_drewN | apply below_drew1) | exact HB.out)); (case side2 => exact HR0.out); (case side3 => exact HC0.out); rintro e w6 ⟨g315, rfl, hi, hb, hb2⟩; refine ⟨_, rfl, ?_⟩; have n0_ := Aside0.mk (hb); have n1_ := Aside0.mk (hi); clear HB; have HB := n0_; have HI315 := n1_; clear n0_ n1_; (try clear hb); (try clear hb2); (try clear hk); (try clear hi)) | ((with_reducible refine gate_callee (f := 119) rfl ?_); refine goesL_ (some 11) rfl rfl Try.func119 (by kernel_rfl) rfl #[.pointer (some ⟨g315, 0, none⟩)] rfl (by (try simp only [List.map_toArray, List.map_cons, List.map_nil]); first | done | rfl | (simp only [List.length_drop, List.length_take]; rfl)) ?_; (with_reducible refine (spec_l22Draw.calls k g315 t312 t313 t314 t316 t319 t320 w _ ?side1 ?side2 A3.out).mono ?_); (case side1 => repeat (first | (with_reducible first | exact HI315.out | apply IsS173.alloc | apply IsS173.drewN | apply IsS173.drew | apply IsS173.set_1 | apply IsS173.set_2) | exact HI315.out)); (case side2 => repeat (first | (with_reducible first | exact HB.out | apply below_alloc | apply pw_below_drewN | apply below_drew1 | refine below_set ?_ (IsS173.ge HI315.out)) | exact HB.out)); rintro e w7 ⟨v317, rfl, ho0, hi, hb, hk⟩; refine ⟨_, rfl, ?_⟩; have n0_ := Aside0.mk (Kd.R_lower ho0 (below_size (by repeat (first | (with_reducible first | exact HB.out | apply below_alloc | apply pw_below_drewN | apply below_drew1 | refine below_set ?_ (IsS173.ge HI315.out)) | exact HB.out)))); have n1_ := Aside0.mk (hb); have n2_ := Aside0.mk (hi); clear HB; clear HI315; have HO318 := n0_; have HB := n1_; have HI315 := n2_; clear n0_ n1_ n2_; (try clear hb); (try clear hb2); (try clear hk); (try clear hi); (try clear ho0)) | ((with_reducible refine gate_callee (f := 120) rfl ?_); refine goesL_ (some 13) rfl rfl Try.func120 (by kernel_rfl) rfl #[.pointer (some ⟨g315, 0, none⟩)] rfl (by (try simp only [List.map_toArray, List.map_cons, List.map_nil]); first | done | rfl | (simp only [List.length_drop, List.length_take]; rfl)) ?_; (with_reducible refine (spec_l22DrawBeat.calls g315 t312 t319 t320 t321 t322 t323 w _ ?side1 ?side2 A4.out).mono ?_); (case side1 => repeat (first | (with_reducible first | exact HI315.out | apply IsS173.alloc | apply IsS173.drewN | apply IsS173.drew | apply IsS173.set_1 | apply IsS173.set_2) | exact HI315.out)); (case side2 => repeat (first | (with_reducible first | exact HB.out | apply below_alloc | apply pw_below_drewN | apply below_drew1 | refine below_set ?_ (IsS173.ge HI315.out)) | exact HB.out)); rintro e w8 ⟨rfl, hi, hb, hk⟩; refine ⟨_, rfl, ?_⟩; have n0_ := Aside0.mk (Kd.R_mono (Kd.R_keep (IsS173.apart (show IsS173 w _ g315 t312 t319 t320 from by repeat (first | (with_reducible first | exact HI315.out | apply IsS173.alloc | apply IsS173.drewN | apply IsS173.drew | apply IsS173.set_1 | apply IsS173.set_2) | exact HI315.out)) (by (with_reducible repeat (first | apply Kd.R_alloc | apply Kd.R_drewN | apply Kd.R_drew)); exact HO318.out) (by decide)) hk (fun _ h => h.2)) (fun _ h => h.1)); have n1_ := Aside0.mk (hb); have n2_ := Aside0.mk (hi); clear HO318; clear HB; clear HI315; have HO318 := n0_; have HB := n1_; have HI315 := n2_; clear n0_ n1_ n2_; (try clear hb); (try clear hb2); (try clear hk); (try clear hi)) | ((with_reducible refine gate_dst (N := 17) rfl ?_); refine Kd.R_lit (Kd.int .i64) _ 2 ?hg (N := 17) ?hd (xs := ([60, 120, 10, 600, 9, 601] : List Int)) (inner := [.int .i64 60, .int .i64 120, .int .i64 10, .int .i64 600, .int .i64 9, .int .i64 601]) (ok := fun _ => True) (okp := fun _ => True) ?hr ?hp (fun _ hk => hk) trivial (Below.refl _ _) (Nat.le_refl _) (by simp) ?_; (case hd => rfl); (case hg => rfl); (case hr => first | (go_simp; done) | (go_simp; rfl)); (case hp => exact (Reps.one (show Kd.M (Kd.int .i64) _ _ _ 60 [.int .i64 60] from rfl) (Reps.one (show Kd.M (Kd.int .i64) _ _ _ 120 [.int .i64 120] from rfl) (Reps.one (show Kd.M (Kd.int .i64) _ _ _ 10 [.int .i64 10] from rfl) (Reps.one (show Kd.M (Kd.int .i64) _ _ _ 600 [.int .i64 600] from rfl) (Reps.one (show Kd.M (Kd.int .i64) _ _ _ 9 [.int .i64 9] from rfl) (Reps.one (show Kd.M (Kd.int .i64) _ _ _ 601 [.int .i64 601] from rfl) (Reps.none _ _)))))))); intro v325 w9 ho10 hb hg_ hnew_; clear hg_ hnew_; (first | rw [← Ny324.out] at ho10 | (simp only [Int.reduceToNat] at ho10; rw [← Ny324.out] at ho10)); have n0_ := Aside0.mk (Kd.R_below (by (with_reducible repeat (first | apply Kd.R_alloc | apply Kd.R_drewN | apply Kd.R_drew)); exact HO318.out) hb); have n1_ := Aside0.mk (Kd.R_lower ho10 (below_size (by repeat (first | (with_reducible first | exact HB.out | apply below_alloc | apply pw_below_drewN | apply below_drew1 | refine below_set ?_ (IsS173.ge HI315.out)) | exact HB.out)))); have n2_ := Aside0.mk (IsS173.below (by repeat (first | (with_reducible first | exact HI315.out | apply IsS173.alloc | apply IsS173.drewN | apply IsS173.drew | apply IsS173.set_1 | apply IsS173.set_2) | exact HI315.out)) hb); have n3_ := Aside0.mk (below_step (by repeat (first | (with_reducible first | exact HB.out | apply below_alloc | apply pw_below_drewN | apply below_drew1 | refine below_set ?_ (IsS173.ge HI315.out)) | exact HB.out)) hb); clear HO318; clear HI315; clear HB; have HO318 := n0_; have HO326 := n1_; have HI315 := n2_; have HB := n3_; clear n0_ n1_ n2_ n3_; clear hb ho10; obtain ⟨Ao11, co11, eo11⟩ := Kd.R_slice HO326.out; subst eo11) | ((with_reducible refine gate_callee (f := 108) rfl ?_); refine goesL_ (some 18) rfl rfl Try.func108 (by kernel_rfl) rfl #[.pointer (some ⟨g315, 0, none⟩), .slice Ao11 y324.length co11] rfl (by (try simp only [List.map_toArray, List.map_cons, List.map_nil]); first | done | rfl | (simp only [List.length_drop, List.length_take]; rfl)) ?_; (with_reducible refine (spec_l00Src_among.calls g315 t312 t322 t323 _ _ y324 t327 t328 t329 w _ ?side1 ?side2 ?side3 ?side4 ?side5 A5.out).mono ?_); (case side1 => repeat (first | (with_reducible first | exact HI315.out | apply IsS173.alloc | apply IsS173.drewN | apply IsS173.drew | apply IsS173.set_1 | apply IsS173.set_2) | exact HI315.out)); (case side2 => repeat (first | (with_reducible first | exact HB.out | apply below_alloc | apply pw_below_drewN | apply below_drew1 | refine below_set ?_ (IsS173.ge HI315.out)) | exact HB.out)); (case side3 => repeat (first | exact (Kd.R_reads' HO326.out).2.2 | (with_reducible refine Kd.C_alloc ?_ _) | (with_reducible refine Kd.C_drewN ?_ _) | (with_reducible refine Kd.C_drew ?_))); (case side4 => exact (Kd.R_reads' HO326.out).2.1); (case side5 => exact far_slice (IsS173.own_ne HI315.out HO326.out (by decide))); rintro e w12 ⟨rfl, hi, hb, hk⟩; refine ⟨_, rfl, ?_⟩; have n0_ := Aside0.mk (Kd.R_mono (Kd.R_keep (IsS173.apart (show IsS173 w _ g315 t312 t322 t323 from by repeat (first | (with_reducible first | exact HI315.out | apply IsS173.alloc | apply IsS173.drewN | apply IsS173.drew | apply IsS173.set_1 | apply IsS173.set_2) | exact HI315.out)) (by (with_reducible repeat (first | apply Kd.R_alloc | apply Kd.R_drewN | apply Kd.R_drew)); exact HO318.out) (by decide)) hk (fun _ h => h.2)) (fun _ h => h.1)); have n1_ := Aside0.mk (Kd.R_mono (Kd.R_keep (IsS173.apart (show IsS173 w _ g315 t312 t322 t323 from by repeat (first | (with_reducible first | exact HI315.out | apply IsS173.alloc | apply IsS173.drewN | apply IsS173.drew | apply IsS173.set_1 | apply IsS173.set_2) | exact HI315.out)) (by (with_reducible repeat (first | apply Kd.R_alloc | apply Kd.R_drewN | apply Kd.R_drew)); exact HO326.out) (by decide)) hk (fun _ h => h.2)) (fun _ h => h.1)); have n2_ := Aside0.mk (hb); have n3_ := Aside0.mk (hi); clear HO318; clear HO326; clear HB; clear HI315; have HO318 := n0_; have HO326 := n1_; have HB := n2_; have HI315 := n3_; clear n0_ n1_ n2_ n3_; (try clear hb); (try clear hb2); (try clear hk); (try clear hi)))
 go_ret3
 exact ⟨_, by first | rfl | (simp [errW_none, errW_some] <;> rfl) | (simp [*, errW_none, errW_some] <;> rfl), by (with_reducible repeat (first | apply Kd.R_alloc | apply Kd.R_drewN | apply Kd.R_drew)); exact HO318.out, by repeat (first | (with_reducible first | exact HB.out | apply below_alloc | apply pw_below_drewN | apply below_drew1 | refine below_set ?_ (IsS173.ge HI315.out)) | exact HB.out)⟩

/-! ### impl_TempoMark: function 131, by hand -/
theorem cloneTempoMark_eqi (A : Option Addr) (d n c : Nat) (w : World) : (Op.equalIn (d + 1) 61 (.slice A n c) (.slice none 0 0)).run Try.prog w = .ok A.isNone w := by
 cases A <;> simp [Op.equalIn, run_underlying Try.underlying61]
theorem cloneTempoMark_nil (n c : Nat) (w : World) : Sem.run Try.prog (binOp .eql 61 (.slice none n c) (.slice none 0 0)) w = .ok (.bool true) w := by
 simp only [binOp]; simp [Op.equal, Op.maxDepth, cloneTempoMark_eqi none 9999 n c w]
theorem cloneTempoMark_some (a : Addr) (n c : Nat) (w : World) : Sem.run Try.prog (binOp .eql 61 (.slice (some a) n c) (.slice none 0 0)) w = .ok (.bool false) w := by
 simp only [binOp]; simp [Op.equal, Op.maxDepth, cloneTempoMark_eqi (some a) 9999 n c w]
attribute [local go_sem] cloneTempoMark_nil cloneTempoMark_some
def impl_TempoMark.f (l0 : List S141) : Option (List S141) := if l0.length < 8796093022208 then some l0 else none
set_option maxHeartbeats 8000000 in
set_option maxRecDepth 100000 in
theorem impl_TempoMark.calls (A0 : Option Addr) (c0 : Nat) (l0 : List S141) (r : List S141) (w : World) (hr0 : Kd.C k141 w A0 l0.length l0) (hc0 : l0.length ≤ c0) (h : impl_TempoMark.f l0 = some r) :
  Calls Try.prog 131 #[.slice A0 l0.length c0] w fun e w' => ∃ v0_ : Value, e = .returned (v0_) ∧ Kd.R k141 141 w' w.heap.size (fun _ => True) v0_ r ∧ Below w.heap.size w w' := by
 have HR0 := Aside0.mk hr0
 have HC0 := Aside0.mk hc0
 clear hc0
 have HB := Aside0.mk (Below.refl w.heap.size w)
 have H : (if l0.length < 8796093022208 then some l0 else none) = some r := h
 clear h
 have hu := Try.underlying61
 by_cases c2 : l0.length < 8796093022208
 ·rw [if_pos c2] at H
  obtain rfl := Option.some.inj H
  cases A0 with
  | none =>
   obtain rfl : l0 = [] := by
    cases l0 with
    | nil => rfl
    | cons x l => obtain ⟨_, _, h3⟩ := hr0; obtain ⟨_, h4, _⟩ := h3 (by simp); cases h4
   clear hr0
   go_enter Try.func131, Try.ntmps131
   go_wp2
   go_ret
   exact ⟨_, rfl, Kd.R_nil _ _ _ _ _, by repeat (first | (with_reducible first | exact HB.out | apply below_alloc | apply pw_below_drewN | apply below_drew1) | exact HB.out)⟩
  | some ad =>
   clear hr0
   obtain ⟨y208, hy208⟩ : ∃ y_ : List S141, y_ = (([] : List S141)) := ⟨_, rfl⟩
   have Ny208 := Aside0.mk hy208
   clear hy208
   obtain ⟨y211, hy211⟩ : ∃ y_ : List S141, y_ = (y208 ++ l0) := ⟨_, rfl⟩
   have Ny211 := Aside0.mk hy211
   clear hy211
   have LMc2 : Aside0 (y208.length + l0.length < 8796093022208) := ⟨by rw [Ny208.out]; simpa using c2⟩
   have E : y211 = l0 := by rw [Ny211.out, Ny208.out]; rfl
   clear c2
   go_enter Try.func131, Try.ntmps131
   go_wp2_with (first | ((with_reducible refine gate_dst (N := 5) rfl ?_); refine Kd.R_lit k141 _ 141 ?hg (N := 5) ?hd (xs := ([] : List S141)) (inner := []) (ok := fun _ => True) (okp := fun _ => True) ?hr ?hp (fun _ hk => hk) trivial (Below.refl _ _) (Nat.le_refl _) (by simp) ?_; (case hd => rfl); (case hg => rfl); (case hr => first | (go_simp; done) | (go_simp; rfl)); (case hp => exact (Reps.none _ _)); intro v209 w3 ho4 hb hg_ hnew_; clear hg_ hnew_; (first | rw [← Ny208.out] at ho4 | (simp only [Int.reduceToNat] at ho4; rw [← Ny208.out] at ho4)); have n0_ := Aside0.mk (Kd.R_lower ho4 (below_size (by repeat (first | (with_reducible first | exact HB.out | apply below_alloc | apply pw_below_drewN | apply below_drew1) | exact HB.out)))); have n1_ := Aside0.mk (below_step (by repeat (first | (with_reducible first | exact HB.out | apply below_alloc | apply pw_below_drewN | apply below_drew1) | exact HB.out)) hb); clear HB; have HO210 := n0_; have HB := n1_; clear n0_ n1_; clear hb ho4) | ((with_reducible refine gate_builtin (b := .append) (xs := #[.tmp 5, .tmp 6]) rfl ?_); at_builtin; refine Kd.R_append_rows k141 (w0 := w) w.heap.size rfl (.tmp 5) (.tmp 6) 61 141 (.agg #[(.int .i64 0), (.int .i64 0)]) 16 rfl Try.underlying61 info141 rfl (by decide) (by omega) v209 y208 l0 _ _ _ (fun _ => True) (fun _ => False) rfl rfl ?aO ?aR (fun _ _ h => h) (fun _ h => h.elim) ?aF ?aB ?aS ?aL ?_; (case aR => repeat (first | exact (Kd.C_below HR0.out HB.out) | (with_reducible refine Kd.C_alloc ?_ _) | (with_reducible refine Kd.C_drewN ?_ _) | (with_reducible refine Kd.C_drew ?_))); (case aB => exact (by repeat (first | (with_reducible first | exact HB.out | apply below_alloc | apply pw_below_drewN | apply below_drew1) | exact HB.out))); (case aF => exact (fun _ _ => trivial)); (case aO => exact (by (with_reducible repeat (first | apply Kd.R_alloc | apply Kd.R_drewN | apply Kd.R_drew)); exact HO210.out)); (case aS => exact (below_size (by repeat (first | (with_reducible first | exact HB.out | apply below_alloc | apply pw_below_drewN | apply below_drew1) | exact HB.out)))); (case aL => have := LMc2.out; omega); intro v212 w5 ho hb hg hat; rw [← Ny211.out] at ho; have n0_ := Aside0.mk (hb); have n1_ := Aside0.mk (ho); clear HB; clear HO210; have HB := n0_; have HO213 := n1_; clear n0_ n1_; clear ho hb hg hat))
   go_ret
   exact ⟨_, rfl, by (with_reducible repeat (first | apply Kd.R_alloc | apply Kd.R_drewN | apply Kd.R_drew)); exact E ▸ HO213.out, by repeat (first | (with_reducible first | exact HB.out | apply below_alloc | apply pw_below_drewN | apply below_drew1) | exact HB.out)⟩
 ·rw [if_neg c2] at H
  exact absurd H (by simp)

/-! ### impl_RampTo: function 52, by hand -/
theorem rdTm (l : List S141) (k : Nat) : rd_T141 l (k : Int) = l.getD k z141 := by
 unfold rd_T141
 rw [Int.toNat_natCast]
def idxM (p : S141 → Bool) (l : List S141) : Int := if l.any p = true then (l.findIdx p : Int) else -1
theorem getDTm (l : List S141) (k : Nat) (h : k < l.length) : l.getD k z141 = l[k] := by
 rw [List.getD_eq_getElem?_getD, List.getElem?_eq_getElem h]; rfl
theorem idxM_hit (p : S141 → Bool) (l : List S141) (k : Nat) (h : k < l.length) (h1 : p (l.getD k z141) = true) (h2 : ∀ j, j < k → p (l.getD j z141) = false) : idxM p l = k := by
 unfold idxM
 rw [getDTm l k h] at h1
 rw [if_pos (List.any_eq_true.2 ⟨l[k], List.getElem_mem h, h1⟩)]
 congr 1
 refine (List.findIdx_eq h).2 ⟨h1, fun j hj => ?_⟩
 have := h2 j hj
 rwa [getDTm l j (by omega)] at this
theorem idxM_miss (p : S141 → Bool) (l : List S141) (h : ∀ j, j < l.length → p (l.getD j z141) = false) : idxM p l = -1 := by
 unfold idxM
 rw [if_neg]
 intro h1
 obtain ⟨x, hx, hp⟩ := List.any_eq_true.1 h1
 obtain ⟨j, hj, e⟩ := List.getElem_of_mem hx
 have := h j hj
 rw [getDTm l j hj, e, hp] at this
 cases this
theorem idxM_any (p : S141 → Bool) (l : List S141) : decide (0 ≤ idxM p l) = l.any p := by
 unfold idxM
 split
 ·rename_i h; rw [h]; simp
 ·rename_i h; rw [Bool.eq_false_iff.2 h]; rfl
set_option maxHeartbeats 4000000 in
theorem slices_IndexFunc_M.calls (g : Nat) (lb : Array Value) (p : S141 → Bool) (eg : ∀ args w, (callFunc g args).run Try.prog w = .ok (.enter g args) w) (A0 : Option Addr) (c0 : Nat) (l0 : List S141) (w : World) (hr0 : Kd.C k141 w A0 l0.length l0)
  (hp : ∀ (W : World) (x : S141), Below w.heap.size w W → Calls Try.prog g (#[.agg #[.int .i64 x.f0, .int .i64 x.f1]] ++ lb) W fun e w' => e = .returned (.bool (p x)) ∧ Below w.heap.size w w') :
  Calls Try.prog 191 #[.slice A0 l0.length c0, .func (.func g) #[] lb] w fun e w' => e = .returned (.int .i64 (idxM p l0)) ∧ Below w.heap.size w w' := by
 have hbig := Kd.C_max hr0
 have HR := Aside0.mk hr0
 clear hr0
 have HP := Aside0.mk hp
 clear hp
 go_enter Try.func191, Try.ntmps191
 go_wp2
 go_loopg [5, 8] l0.length (fun gg _ s8 wr => ∃ kk : Nat, kk ≤ l0.length ∧ l0.length - kk ≤ gg ∧ s8 = .int .i64 kk ∧ Aside0 (Below w.heap.size w wr) ∧ Aside0 (∀ j, j < kk → p (l0.getD j z141) = false))
 case atStart => exact ⟨0, Nat.zero_le _, by omega, rfl, ⟨Below.refl _ w⟩, ⟨fun j hj => absurd hj (Nat.not_lt_zero _)⟩⟩
 case round =>
  obtain ⟨kk, hkk, hg, rfl, BW, A⟩ := hrel
  by_cases hlt : kk < l0.length
  ·have hltz : (kk : Int) < (l0.length : Int) := by omega
   obtain ⟨ad, e1, hc, hc1⟩ := at_T141 (Kd.C_below HR.out BW.out) (kk : Int) (by omega) hltz
   cases e1
   rw [rdTm] at hc hc1
   rw [Int.toNat_natCast] at hc hc1
   have hcall := HP.out wr (l0.getD kk z141) BW.out
   generalize hy : l0.getD kk z141 = y at hc hc1 hcall
   have B := Aside0.mk hy
   clear hy
   cases hq : p y with
   | true =>
    rw [hq] at hcall
    have HQ := Aside0.mk hq
    clear hq
    go_wp2_with (fail)
    refine hcall.mono ?_
    rintro e w' ⟨rfl, hb0⟩
    have hb' := Aside0.mk hb0
    clear hb0 hcall hc hc1
    dsimp only
    go_wp2
    go_ret
    refine ⟨?_, hb'.out⟩
    rw [idxM_hit p l0 kk hlt (by rw [B.out]; exact HQ.out) A.out]; rfl
   | false =>
    rw [hq] at hcall
    have HQ := Aside0.mk hq
    clear hq
    go_wp2_with (fail)
    refine hcall.mono ?_
    rintro e w' ⟨rfl, hb0⟩
    have hb' := Aside0.mk hb0
    clear hb0 hcall hc hc1
    dsimp only
    go_wp2
    go_roundg (l0.length - (kk + 1))
    case measure => omega
    case rel =>
     refine ⟨kk + 1, by omega, by omega, by go_num, hb', ⟨fun j hj => ?_⟩⟩
     by_cases e : j = kk
     ·subst e
      rw [B.out]; exact HQ.out
     ·exact A.out j (by omega)
  ·have hltz : ¬ (kk : Int) < (l0.length : Int) := by omega
   obtain rfl : kk = l0.length := by omega
   go_wp2
   go_ret
   refine ⟨?_, BW.out⟩
   rw [idxM_miss p l0 A.out]; rfl
theorem idxM_none (p : S141 → Bool) (l : List S141) (h : l.any p = false) : idxM p l = -1 ∧ l.findIdx p = l.length := by
 refine ⟨by unfold idxM; rw [if_neg (by simp [h])], ?_⟩
 rw [List.findIdx_eq_length]
 intro x hx
 have := (List.any_eq_false.1 h) x hx
 simpa using this
theorem idxM_some (p : S141 → Bool) (l : List S141) (h : l.any p = true) : idxM p l = (l.findIdx p : Int) ∧ l.findIdx p < l.length := by
 refine ⟨by unfold idxM; rw [if_pos h], ?_⟩
 obtain ⟨x, hx, hp⟩ := List.any_eq_true.1 h
 exact List.findIdx_lt_length_of_exists ⟨x, hx, hp⟩
theorem run_clear_M (w : World) (ty : TypeId) (g n m c : Nat) (hn : 0 < m) (hc : ∀ j, j < m * 2 → (w.cell? ⟨g, n * 2 + j, none⟩).isSome = true) (hf : ∀ j, j < m * 2 → w.frozen? ⟨g, n * 2 + j, none⟩ = false) :
  ∃ vs : List Value, vs.length = m * 2 ∧ (Builtin.clear_ #[61] ty #[.slice (some ⟨g, n * 2, none⟩) m c]).run Try.prog w = .ok (.tuple #[]) (w.setCells g (n * 2) vs) := by
 refine ⟨(Builtin.zeroCells #[.int .i64 0, .int .i64 0] m).toList, by simp [Builtin.zeroCells], ?_⟩
 have hst := run_storeCells_cells (P := Try.prog) g (n * 2) (Builtin.zeroCells #[.int .i64 0, .int .i64 0] m).toList 0 w (by simpa [Builtin.zeroCells] using hc) (by simpa [Builtin.zeroCells] using hf) (by
  intro v hv
  simp only [Builtin.zeroCells, Array.toList_map, List.mem_map] at hv
  obtain ⟨i, _, rfl⟩ := hv
  have : i % 2 = 0 ∨ i % 2 = 1 := by omega
  rcases this with e | e <;> simp [e, Value.oneCell'])
 simp only [Nat.add_zero] at hst
 obtain ⟨m, rfl⟩ : ∃ q, m = q + 1 := ⟨m - 1, by omega⟩
 have hz := Try.zeroValue141
 simp [Builtin.clear_, run_underlying Try.underlying61, hz, Value.cells, hst]
def rampP (beat : Int) (x : S141) : Bool := decide (beat ≤ x.f0)
set_option maxHeartbeats 4000000 in
theorem impl_RampTo_1.calls (b : Nat) (beat : Int) (x : S141) (W : World) (hb : b < W.heap.size) (hc : W.cell? ⟨b, 0, none⟩ = some (.int .i64 beat)) :
  Calls Try.prog 132 #[.agg #[.int .i64 x.f0, .int .i64 x.f1], .pointer (some ⟨b, 0, none⟩)] W fun e w' => e = .returned (.bool (rampP beat x)) ∧ Below W.heap.size W w' := by
 have hc2 : ∀ o, (W.alloc o).cell? ⟨b, 0, none⟩ = some (.int .i64 beat) := fun o => Go.Lib.cell?_alloc_some o hc
 have e : rampP beat x = decide (x.f0 ≥ beat) := rfl
 rw [e]
 clear e
 go_enter Try.func132, Try.ntmps132
 go_wp2
 go_ret
 exact ⟨by simp, by repeat (first | exact Below.refl _ _ | apply below_alloc | apply pw_below_drewN | apply below_drew)⟩
theorem rt_R_take {w w' : World} {base g cap n : Nat} {ok ok' : Nat → Prop} {cur cur' : Array Value} {xs : List S141} {inner : List Value} (hn : n ≤ xs.length) (hg : base ≤ g) (hb' : w'.heap[g]? = some (.cells cur' 141 (0, 0))) (h1 : xs.length ≤ cap) (h2 : cap ≤ maxLen) (h3 : cur.size = cap * 2) (h4 : cur.toList.take (xs.length * 2) = inner)
  (hs : cur'.size = cur.size) (ht : cur'.toList.take (n * 2) = cur.toList.take (n * 2)) (hr : Reps (Kd.M k141 w base ok) 2 xs inner) (hm : ∀ x cs, Kd.M k141 w base ok x cs → Kd.M k141 w' base (fun k => ok' k ∧ some k ≠ (Value.slice (some ⟨g, 0, none⟩) n cap).ownBlock) x cs) (hok : ok' g) :
  Kd.R k141 141 w' base ok' (.slice (some ⟨g, 0, none⟩) n cap) (xs.take n) := by
 have hl : (xs.take n).length = n := by rw [List.length_take]; omega
 refine ⟨fun k hk => by simp [Value.ownBlock] at hk; subst hk; exact hok, inner.take (n * 2), ⟨?_, .inr ⟨g, cap, cur', by rw [hl], hg, hb', by omega, h2, by rw [hs, h3]; rfl, ?_⟩⟩, ?_, fun j p hj => ?_⟩
 ·rw [hl, List.length_take, hr.1]; exact Nat.min_eq_left (Nat.mul_le_mul_right 2 hn)
 ·rw [hl]
  show cur'.toList.take (n * 2) = _
  rw [ht, ← h4, List.take_take, Nat.min_eq_left (Nat.mul_le_mul_right 2 hn)]
 ·rw [hl, List.length_take, hr.1]; exact Nat.min_eq_left (Nat.mul_le_mul_right 2 hn)
 ·have hjn : j < n := by
   have := (List.getElem?_eq_some_iff.1 hj).1
   rw [hl] at this; exact this
  rw [List.getElem?_take_of_lt hjn] at hj
  have := hm _ _ (hr.2 j p hj)
  have e : ((inner.take (n * 2)).drop (j * 2)).take 2 = (inner.drop (j * 2)).take 2 := by
   rw [List.drop_take, List.take_take, Nat.min_eq_left (by omega)]
  show Kd.M k141 w' base _ p (((inner.take (n * 2)).drop (j * 2)).take 2)
  rw [e]; exact this
set_option maxHeartbeats 8000000 in
set_option maxRecDepth 100000 in
theorem slices_DeleteFunc_M.calls (gf : Nat) (lb : Array Value) (p : S141 → Bool) (eg : ∀ args w, (callFunc gf args).run Try.prog w = .ok (.enter gf args) w) (v : Value) (P0_ : Nat → Prop) (l0 : List S141) (w0 w : World) (hB : Below w0.heap.size w0 w) (ho0 : Kd.R k141 141 w w0.heap.size P0_ v l0)
  (hmono : ∀ j, l0.findIdx p ≤ j → j < l0.length → p (l0.getD j z141) = true)
  (hp : ∀ (W : World) (x : S141), Below w.heap.size w W → Calls Try.prog gf (#[.agg #[.int .i64 x.f0, .int .i64 x.f1]] ++ lb) W fun e w' => e = .returned (.bool (p x)) ∧ Below w.heap.size w w') :
  Calls Try.prog 130 #[v, .func (.func gf) #[] lb] w fun e w' => ∃ v0_ : Value, e = .returned v0_ ∧ Kd.R k141 141 w' w0.heap.size P0_ v0_ (l0.take (l0.findIdx p)) ∧ Below w0.heap.size w0 w' ∧ ∀ k, k < w.heap.size → some k ≠ v.ownBlock → w'.heap[k]? = w.heap[k]? := by
 have HB := Aside0.mk hB
 have HP := Aside0.mk hp
 have HR := Aside0.mk ho0
 have EG := Aside0.mk eg
 clear hp eg
 obtain ⟨A, c, rfl, hlc, hC⟩ := Kd.R_reads ho0
 have HC := Aside0.mk hC
 have hIF := slices_IndexFunc_M.calls gf lb p EG.out A c l0 w hC HP.out
 have HIF := Aside0.mk hIF
 have hbig := Kd.C_max hC
 clear hIF hC hB
 cases hany : l0.any p with
 | false =>
  obtain ⟨e1, e2⟩ := idxM_none p l0 hany
  rw [e1] at HIF
  rw [e2, List.take_length]
  clear hmono e1 e2 hany
  have HR2 := HR
  clear ho0
  go_enter Try.func130, Try.ntmps130
  go_wp2_with fail
  refine HIF.out.mono ?_
  rintro e w2 ⟨rfl, hb2⟩
  have HB2 := Aside0.mk hb2
  clear hb2
  dsimp only
  go_wp2
  go_ret
  exact ⟨_, rfl, Kd.R_below HR.out HB2.out, below_then HB.out HB.out.size HB2.out, fun k hk _ => HB2.out.block k hk⟩
 | true =>
  obtain ⟨e1, hn⟩ := idxM_some p l0 hany
  rw [e1] at HIF
  generalize hnn : l0.findIdx p = n at *
  have HM := Aside0.mk hmono
  clear hmono e1 hany hnn
  obtain ⟨hP, inner, ho, hr⟩ := ho0
  rcases ho.2 with ⟨e, hz⟩ | ⟨g, cap, cur, e, hg, hb, h1, h2, h3, h4⟩
  ·omega
  ·cases e
   have hgs : g < w.heap.size := (Array.getElem?_eq_some_iff.1 hb).1
   have h3' : cur.size = c * 2 := h3
   have HH : Aside0 (w.heap[g]? = some (.cells cur 141 (0, 0))) := ⟨hb⟩
   have HG := Aside0.mk hg
   have HGS := Aside0.mk hgs
   have H2 := Aside0.mk h2
   have H3 := Aside0.mk h3'
   have H4 : Aside0 (cur.toList.take (l0.length * 2) = inner) := ⟨h4⟩
   have HRR : Aside0 (Reps (Kd.M k141 w w0.heap.size (fun k => P0_ k ∧ some k ≠ (Value.slice (some ⟨g, 0, none⟩) l0.length c).ownBlock)) 2 l0 inner) := ⟨hr⟩
   have HPP := Aside0.mk hP
   clear hb hg hgs h2 h3 h3' h4 hr hP ho
   have hn1 : ((n : Int) == -1) = false := beq_eq_false_iff_ne.2 (by omega)
   go_enter Try.func130, Try.ntmps130
   go_wp2_with fail
   refine HIF.out.mono ?_
   rintro e w2 ⟨rfl, hb2⟩
   have HB2 := Aside0.mk hb2
   clear hb2
   dsimp only
   go_wp2_with fail
   go_loopg [5, 6, 7] l0.length (fun gg s5 s6 _ wr => ∃ j : Nat, s5 = .int .i64 n ∧ n < j ∧ j ≤ l0.length ∧ l0.length - j ≤ gg ∧ s6 = .int .i64 j ∧ Aside0 (Below w.heap.size w wr))
   case atStart => exact ⟨n + 1, rfl, by omega, by omega, by omega, by go_num, HB2⟩
   case round =>
    obtain ⟨j, rfl, hnj, hjl, hgg, rfl, BW⟩ := hrel
    by_cases hlt : j < l0.length
    ·have hltz : (j : Int) < (l0.length : Int) := by omega
     obtain ⟨ad, e1, hc, hc1⟩ := at_T141 (Kd.C_below HC.out BW.out) (j : Int) (by omega) hltz
     cases e1
     rw [rdTm] at hc hc1
     rw [Int.toNat_natCast] at hc hc1
     have ha : ∀ i, (⟨g, 0, none⟩ : Addr).add i = ⟨g, 0 + i, none⟩ := fun i => by unfold Addr.add; split <;> simp_all
     rw [ha, Nat.zero_add] at hc hc1
     have hc' : wr.cell? ⟨g, j * 2, none⟩ = some (.int .i64 (l0.getD j z141).f0) := hc
     have hc1' : wr.cell? ⟨g, j * 2 + 1, none⟩ = some (.int .i64 (l0.getD j z141).f1) := hc1
     clear hc hc1
     have hq := HM.out j (by omega) hlt
     generalize l0.getD j z141 = y at hc' hc1' hq
     have HQ := Aside0.mk hq
     clear hq
     have eg := EG.out
     go_wp2_with (fail)
     refine (HP.out _ y (below_alloc BW.out _)).mono ?_
     rintro e w3 ⟨rfl, hb3⟩
     rw [HQ.out]
     have HB3 := Aside0.mk hb3
     clear hb3
     dsimp only
     go_wp2_with (fail)
     go_roundg (l0.length - (j + 1))
     case measure => omega
     case rel => exact ⟨j + 1, rfl, by omega, by omega, by omega, by go_num, HB3⟩
    ·have hltz : ¬ (j : Int) < (l0.length : Int) := by omega
     obtain rfl : j = l0.length := by omega
     have hbw : wr.heap[g]? = some (.cells cur 141 (0, 0)) := (BW.out.block g HGS.out).trans HH.out
     have hcs := H3.out
     obtain ⟨vs, hvs, hcl⟩ := run_clear_M wr 0 g n (l0.length - n) (c - n) (by omega) (fun j hj => by simp [World.cell?, hbw]; omega) (fun j hj => by simp [World.frozen?, hbw])
     have HVS := Aside0.mk hvs
     have HBW := Aside0.mk hbw
     clear hvs hbw hcs
     go_wp2_with (fail)
     go_ret
     obtain ⟨cur', k1, k2, k3⟩ := setCells_row vs (n * 2) wr cur HBW.out (by rw [HVS.out, H3.out]; omega)
     refine ⟨_, rfl, ?_, ?_, fun k hk hne => (setCells_far vs (n * 2) k (fun e => hne (by subst e; rfl))).trans (BW.out.block k hk)⟩
     ·refine rt_R_take (cur := cur) (cur' := cur') (inner := inner) (w := w) (Nat.le_of_lt hn) HG.out k1 h1 H2.out H3.out H4.out k2 ?_ HRR.out ?_ (HPP.out g rfl)
      ·rw [k3, List.append_assoc, List.take_left' (by rw [List.length_take]; exact Nat.min_eq_left (by rw [Array.length_toList, H3.out]; omega))]
      ·intro x cs hx
       exact Kd.M_mono _ (fun k hk => hk.1) (Kd.M_move _ (fun k hk => by
        have hkg : k ≠ g := fun e => hk.1.2 (by subst e; rfl)
        rw [setCells_far vs (n * 2) k hkg]
        exact BW.out.block k hk.2.2.1) (Kd.M_bound _ hx))
     ·obtain ⟨s1, s2, s3, s4⟩ := setCells_same g vs (n * 2) wr
      exact (below_then HB.out HB.out.size BW.out).trans ⟨s1, s2, s3, by rw [s4]; exact Nat.le_refl _, fun k hk => setCells_far vs (n * 2) k (by have := HG.out; omega)⟩
def rampCut (l0 : List S141) (a1 : Int) : List S141 := l0.take (l0.findIdx (rampP a1))
def rampMono (l0 : List S141) (a1 : Int) : Bool := (l0.drop (l0.findIdx (rampP a1))).all (rampP a1)
def impl_RampTo.f (k : Nat) (l0 : List S141) (a1 : Int) (a2 : Int) : Option ((List S141) × Int) := (impl_ValidTempo.f k l0).bind fun t => if t = true then ((impl_within.f a1 1 2000).bind fun b => if b = true then ((impl_tempoOk.f a2).bind fun c => if c = true then (if rampMono l0 a1 = true ∧ l0.length < 1000000 then (if 16 < (rampCut l0 a1 ++ [(⟨a1, a2⟩ : S141)]).length then some ([], 5) else some (rampCut l0 a1 ++ [(⟨a1, a2⟩ : S141)], 0)) else none) else some ([], 2)) else some ([], 2)) else some ([], 1)
theorem impl_RampTo.mono : ∀ a0 a1 a2 k, LeO (impl_RampTo.f k a0 a1 a2) (impl_RampTo.f (k + 1) a0 a1 a2) := by
 intro a0 a1 a2 k
 unfold impl_RampTo.f
 repeat' first
   | exact impl_ValidTempo.mono _ _
   | (with_reducible exact LeO.refl _)
   | (with_reducible exact LeO.none _)
   | (with_reducible refine LeO.ite ?_ ?_)
   | (with_reducible refine LeO.bind ?_ (fun _ => ?_))
   | exact LeO.none _
   | refine LeO.ite ?_ ?_
   | refine LeO.bind ?_ (fun _ => ?_)
set_option maxHeartbeats 8000000 in
set_option maxRecDepth 100000 in
theorem impl_RampTo.calls (k : Nat) (A0 : Option Addr) (c0 : Nat) (l0 : List S141) (a1 : Int) (a2 : Int) (r1 : List S141) (r2 : Int) (w : World) (hr0 : Kd.C k141 w A0 l0.length l0) (hc0 : l0.length ≤ c0) (h : impl_RampTo.f k l0 a1 a2 = some (r1, r2)) :
  Calls Try.prog 52 #[.slice A0 l0.length c0, .int .i64 a1, .int .i64 a2] w fun e w' => ∃ v0_ : Value, e = .returned (.tuple #[v0_, .int .i64 r2]) ∧ Kd.R k141 141 w' w.heap.size (fun _ => True) v0_ r1 ∧ Below w.heap.size w w' := by
 have HR0 := Aside0.mk hr0
 have HC0 := Aside0.mk hc0
 clear hr0 hc0
 have eg := enters_of (P := Try.prog) Try.func132 (by kernel_rfl) rfl
 have EG := Aside0.mk eg
 clear eg
 unfold impl_RampTo.f at h
 obtain ⟨t, ht, H⟩ := Option.bind_eq_some_iff.mp h
 clear h
 have HT := Aside0.mk ht
 clear ht
 cases t with
 | false =>
  rw [if_neg (by simp)] at H
  simp only [Option.some.injEq, Prod.mk.injEq] at H
  obtain ⟨rfl, rfl⟩ := H
  go_enter Try.func52, Try.ntmps52
  go_wp2_with (fail)
  refine (impl_ValidTempo.calls k A0 c0 l0 false _ (Kd.C_alloc HR0.out _) HC0.out HT.out).mono ?_
  rintro e w2 ⟨rfl, hb2⟩
  have HB2 : Aside0 (Below w.heap.size w w2) := ⟨below_then (below_alloc (Below.refl _ _) _) (by simp <;> omega) hb2⟩
  clear hb2
  dsimp only
  go_wp2_with (fail)
  go_ret2
  exact ⟨_, rfl, Kd.R_nil _ _ _ _ _, HB2.out⟩
 | true =>
  rw [if_pos rfl] at H
  obtain ⟨b, hb, H⟩ := Option.bind_eq_some_iff.mp H
  have HWI := Aside0.mk hb
  clear hb
  cases b with
  | false =>
   rw [if_neg (by simp)] at H
   simp only [Option.some.injEq, Prod.mk.injEq] at H
   obtain ⟨rfl, rfl⟩ := H
   go_enter Try.func52, Try.ntmps52
   go_wp2_with (fail)
   refine (impl_ValidTempo.calls k A0 c0 l0 true _ (Kd.C_alloc HR0.out _) HC0.out HT.out).mono ?_
   rintro e w2 ⟨rfl, hb2⟩
   have hcell2 : w2.cell? ⟨w.heap.size, 0, none⟩ = some (.int .i64 a1) := (hb2.cell (by simp <;> omega)).trans (by simp)
   have HB2 : Aside0 (Below w.heap.size w w2) := ⟨below_then (below_alloc (Below.refl _ _) _) (by simp <;> omega) hb2⟩
   clear hb2
   dsimp only
   go_wp2_with (fail)
   refine (impl_within.calls a1 1 2000 false _ HWI.out).mono ?_
   rintro e w3 ⟨rfl, ⟨nd, rfl⟩⟩
   dsimp only
   go_wp2_with (fail)
   go_ret2
   exact ⟨_, rfl, Kd.R_nil _ _ _ _ _, by repeat (first | (with_reducible first | exact HB2.out | apply below_alloc | apply pw_below_drewN | apply below_drew1) | exact HB2.out)⟩
  | true =>
   rw [if_pos rfl] at H
   obtain ⟨c, hc, H⟩ := Option.bind_eq_some_iff.mp H
   have HTO := Aside0.mk hc
   clear hc
   cases c with
   | false =>
    rw [if_neg (by simp)] at H
    simp only [Option.some.injEq, Prod.mk.injEq] at H
    obtain ⟨rfl, rfl⟩ := H
    go_enter Try.func52, Try.ntmps52
    go_wp2_with (fail)
    refine (impl_ValidTempo.calls k A0 c0 l0 true _ (Kd.C_alloc HR0.out _) HC0.out HT.out).mono ?_
    rintro e w2 ⟨rfl, hb2⟩
    have hcell2 : w2.cell? ⟨w.heap.size, 0, none⟩ = some (.int .i64 a1) := (hb2.cell (by simp <;> omega)).trans (by simp)
    have HB2 : Aside0 (Below w.heap.size w w2) := ⟨below_then (below_alloc (Below.refl _ _) _) (by simp <;> omega) hb2⟩
    clear hb2
    dsimp only
    go_wp2_with (fail)
    refine (impl_within.calls a1 1 2000 true _ HWI.out).mono ?_
    rintro e w3 ⟨rfl, ⟨nd, rfl⟩⟩
    dsimp only
    go_wp2_with (fail)
    refine (impl_tempoOk.calls a2 false _ HTO.out).mono ?_
    rintro e w4 ⟨rfl, ⟨nd2, rfl⟩⟩
    dsimp only
    go_wp2_with (fail)
    go_ret2
    exact ⟨_, rfl, Kd.R_nil _ _ _ _ _, by repeat (first | (with_reducible first | exact HB2.out | apply below_alloc | apply pw_below_drewN | apply below_drew1) | exact HB2.out)⟩
   | true =>
    rw [if_pos rfl] at H
    by_cases hm : rampMono l0 a1 = true ∧ l0.length < 1000000
    ·rw [if_pos hm] at H
     have hlt := hm.2
     have HMM := Aside0.mk hm
     clear hm
     have HCL : Aside0 (impl_TempoMark.f l0 = some l0) := ⟨by unfold impl_TempoMark.f; rw [if_pos (by omega)]⟩
     have hcl : (rampCut l0 a1).length ≤ l0.length := by unfold rampCut; rw [List.length_take]; exact Nat.min_le_right _ _
     obtain ⟨oc, hoc⟩ : ∃ o_ : List S141, o_ = rampCut l0 a1 := ⟨_, rfl⟩
     obtain ⟨oc2, hoc2⟩ : ∃ o_ : List S141, o_ = oc ++ [(⟨a1, a2⟩ : S141)] := ⟨_, rfl⟩
     rw [← hoc, ← hoc2] at H
     rw [← hoc] at hcl
     have HOC := Aside0.mk hoc
     have HOC2 := Aside0.mk hoc2
     have HLE : Aside0 ((oc.length + 1) * 16 ≤ 140737488355328) := ⟨by omega⟩
     clear hoc hoc2 hcl hlt
     have H' := Aside0.mk H
     clear H
     go_enter Try.func52, Try.ntmps52
     go_wp2_with (fail)
     refine (impl_ValidTempo.calls k A0 c0 l0 true _ (Kd.C_alloc HR0.out _) HC0.out HT.out).mono ?_
     rintro e w2 ⟨rfl, hb2⟩
     have hcell2 : w2.cell? ⟨w.heap.size, 0, none⟩ = some (.int .i64 a1) := (hb2.cell (by simp <;> omega)).trans (by simp)
     have HB2 : Aside0 (Below w.heap.size w w2) := ⟨below_then (below_alloc (Below.refl _ _) _) (by simp <;> omega) hb2⟩
     have HS2 : Aside0 (w.heap.size < w2.heap.size) := ⟨by have := hb2.size; simp at this; omega⟩
     clear hb2
     dsimp only
     go_wp2_with (fail)
     refine (impl_within.calls a1 1 2000 true _ HWI.out).mono ?_
     rintro e w3 ⟨rfl, ⟨nd, rfl⟩⟩
     dsimp only
     go_wp2_with (fail)
     refine (impl_tempoOk.calls a2 true _ HTO.out).mono ?_
     rintro e w4 ⟨rfl, ⟨nd2, rfl⟩⟩
     dsimp only
     go_wp2_with (fail)
     refine (impl_TempoMark.calls A0 c0 l0 l0 _ (by (repeat (first | (with_reducible refine Kd.C_drewN ?_ _) | (with_reducible refine Kd.C_drew ?_))); exact Kd.C_below HR0.out HB2.out) HC0.out HCL.out).mono ?_
     rintro e w5 ⟨v5, rfl, hR5, hb5⟩
     have HR5 := Aside0.mk hR5
     have hsz5 : w.heap.size < w5.heap.size := by have h1 := hb5.size; have h2 := HS2.out; simp at h1; omega
     have HB5 : Aside0 (Below w.heap.size w w5) := ⟨below_then (pw_below_drewN HB2.out _) (by have h2 := HS2.out; simp; omega) hb5⟩
     have hcell5 : w5.cell? ⟨w.heap.size, 0, none⟩ = some (.int .i64 a1) := (hb5.cell (by have h2 := HS2.out; simp; omega)).trans (by simpa using hcell2)
     have HC5 := Aside0.mk hcell5
     have HS5 := Aside0.mk hsz5
     have hbase5 : ∀ k, v5.ownBlock = some k → w.heap.size < k := fun k hk => by
      have h1 := Kd.R_base HR5.out k hk
      have h2 := HS2.out
      simp at h1; omega
     have HBA := Aside0.mk hbase5
     have hsz4 : w.heap.size ≤ (w2.drewN (nd + nd2)).heap.size := by have h2 := HS2.out; simp; omega
     have HR5' : Aside0 (Kd.R k141 141 w5 w.heap.size (fun _ => True) v5 l0) := ⟨Kd.R_lower HR5.out (by have h2 := HS2.out; simp; omega)⟩
     clear hR5 hb5 hcell2 hcell5 hsz5 hbase5 hsz4
     dsimp only
     go_wp2_with (fail)
     refine (slices_DeleteFunc_M.calls 132 _ (rampP a1) EG.out v5 (fun _ => True) l0 w w5 HB5.out HR5'.out ?_ ?_).mono ?_
     ·intro j hj1 hj2
      have hm := HMM.out.1
      unfold rampMono at hm
      rw [List.all_eq_true] at hm
      refine hm _ ?_
      rw [getDTm l0 j hj2]
      exact List.mem_drop_iff_getElem.2 ⟨j - l0.findIdx (rampP a1), by omega, by congr 1; omega⟩
     ·intro W x hb
      exact (impl_RampTo_1.calls w.heap.size a1 x W (Nat.lt_of_lt_of_le HS5.out hb.size) ((hb.cell HS5.out).trans HC5.out)).mono (fun e w' ⟨he, hb2⟩ => ⟨he, hb.trans (hb2.mono hb.size)⟩)
     rintro e w6 ⟨v6, rfl, hR6, hb6, hk6⟩
     have hcell6 : w6.cell? ⟨w.heap.size, 0, none⟩ = some (.int .i64 a1) := (World.cell?_of_block (hk6 _ HS5.out (fun e => Nat.lt_irrefl _ (HBA.out _ e.symm)))).trans HC5.out
     have HB6 := Aside0.mk hb6
     have HO6 : Aside0 (Kd.R k141 141 w6 w.heap.size (fun _ => True) v6 oc) := ⟨by rw [HOC.out]; exact hR6⟩
     clear hR6 hb6 hk6
     by_cases c16 : 16 < oc2.length
     ·have H := H'.out
      rw [if_pos c16] at H
      simp only [Option.some.injEq, Prod.mk.injEq] at H
      obtain ⟨rfl, rfl⟩ := H
      have c16b : decide ((16 : Int) < (oc2.length : Int)) = true := decide_eq_true (by omega)
      clear c16 H'
      dsimp only
      try skip
      go_wp2_with (first | ((with_reducible refine gate_builtin (b := .append) (xs := #[.tmp 26, .tmp 30]) rfl ?_); at_builtin; refine Kd.R_append k141 (w0 := w) w.heap.size rfl (.tmp 26) (.tmp 30) 61 141 (.agg #[(.int .i64 0), (.int .i64 0)]) 16 rfl Try.underlying61 info141 rfl (by decide) (by omega) v6 oc (⟨a1, a2⟩ : S141) [.int .i64 a1, .int .i64 a2] (fun _ => True) (fun _ => False) rfl rfl ?aP (fun _ hk => hk.elim) ?aF ?aO ?aB ?aS ?aL ?_; (case aP => exact k141_mkM _ _ _ (⟨a1, a2⟩ : S141)); (case aB => exact (by repeat (first | (with_reducible first | exact HB6.out | apply below_alloc | apply pw_below_drewN | apply below_drew1) | exact HB6.out))); (case aF => exact (fun _ _ => trivial)); (case aO => exact (by (with_reducible repeat (first | apply Kd.R_alloc | apply Kd.R_drewN | apply Kd.R_drew)); exact HO6.out)); (case aS => exact (below_size (by repeat (first | (with_reducible first | exact HB6.out | apply below_alloc | apply pw_below_drewN | apply below_drew1) | exact HB6.out)))); (case aL => have := HLE.out; omega); intro v7 w7 ho hb hg hat; rw [← HOC2.out] at ho; have HB7 := Aside0.mk (hb); have HO7 := Aside0.mk (ho); clear ho hb hg hat; obtain ⟨Ao7, co7, eo7⟩ := Kd.R_slice HO7.out; subst eo7))
      go_ret2
      exact ⟨_, rfl, Kd.R_nil _ _ _ _ _, by repeat (first | (with_reducible first | exact HB7.out | apply below_alloc | apply pw_below_drewN | apply below_drew1) | exact HB7.out)⟩
     ·have H := H'.out
      rw [if_neg c16] at H
      simp only [Option.some.injEq, Prod.mk.injEq] at H
      obtain ⟨rfl, rfl⟩ := H
      have c16b : decide ((16 : Int) < (oc2.length : Int)) = false := decide_eq_false (by omega)
      clear c16 H'
      dsimp only
      go_wp2_with (first | ((with_reducible refine gate_builtin (b := .append) (xs := #[.tmp 26, .tmp 30]) rfl ?_); at_builtin; refine Kd.R_append k141 (w0 := w) w.heap.size rfl (.tmp 26) (.tmp 30) 61 141 (.agg #[(.int .i64 0), (.int .i64 0)]) 16 rfl Try.underlying61 info141 rfl (by decide) (by omega) v6 oc (⟨a1, a2⟩ : S141) [.int .i64 a1, .int .i64 a2] (fun _ => True) (fun _ => False) rfl rfl ?aP (fun _ hk => hk.elim) ?aF ?aO ?aB ?aS ?aL ?_; (case aP => exact k141_mkM _ _ _ (⟨a1, a2⟩ : S141)); (case aB => exact (by repeat (first | (with_reducible first | exact HB6.out | apply below_alloc | apply pw_below_drewN | apply below_drew1) | exact HB6.out))); (case aF => exact (fun _ _ => trivial)); (case aO => exact (by (with_reducible repeat (first | apply Kd.R_alloc | apply Kd.R_drewN | apply Kd.R_drew)); exact HO6.out)); (case aS => exact (below_size (by repeat (first | (with_reducible first | exact HB6.out | apply below_alloc | apply pw_below_drewN | apply below_drew1) | exact HB6.out)))); (case aL => have := HLE.out; omega); intro v7 w7 ho hb hg hat; rw [← HOC2.out] at ho; have HB7 := Aside0.mk (hb); have HO7 := Aside0.mk (ho); clear ho hb hg hat; obtain ⟨Ao7, co7, eo7⟩ := Kd.R_slice HO7.out; subst eo7))
      go_ret2
      exact ⟨_, rfl, by (with_reducible repeat (first | apply Kd.R_alloc | apply Kd.R_drewN | apply Kd.R_drew)); exact HO7.out, by repeat (first | (with_reducible first | exact HB7.out | apply below_alloc | apply pw_below_drewN | apply below_drew1) | exact HB7.out)⟩
    ·rw [if_neg hm] at H
     exact absurd H (by simp)

/-! ### impl_TempoAt: function 53 -/
def impl_TempoAt.f (k : Nat) (l0 : List (S141)) (a1 : Int) : Option (Int × Int) := (impl_tempoCode.f k l0 a1 a1).bind fun t330 => (if t330 = 0 then ((impl_tempoAt.f k l0 a1).bind fun t331 => (some (t331, 0))) else (some (0, t330)))
theorem impl_TempoAt.mono : ∀ a0 a1 k, LeO (impl_TempoAt.f k a0 a1) (impl_TempoAt.f (k + 1) a0 a1) := by
 intro a0 a1 k
 unfold impl_TempoAt.f
 repeat' first
   | (with_reducible exact impl_tempoAt.mono _ _ _)
   | (with_reducible exact impl_tempoCode.mono _ _ _ _)
   | (with_reducible exact LeO.refl _)
   | (with_reducible exact LeO.none _)
   | (with_reducible refine LeO.ite ?_ ?_)
   | (with_reducible refine LeO.bind ?_ (fun _ => ?_))
   | exact impl_tempoAt.mono _ _ _
   | exact impl_tempoCode.mono _ _ _ _
   | exact LeO.none _
   | refine LeO.ite ?_ ?_
   | refine LeO.bind ?_ (fun _ => ?_)
set_option maxHeartbeats 8000000 in
set_option maxRecDepth 100000 in
theorem impl_TempoAt.calls (k : Nat) (A0 : Option Addr) (c0 : Nat) (l0 : List (S141)) (a1 : Int) (r1 : Int) (r2 : Int) (w : World) (hr0 : Kd.C k141 w A0 l0.length l0) (hc0 : l0.length ≤ c0) (h : impl_TempoAt.f k l0 a1 = some (r1, r2)) :
  Calls Try.prog 53 #[.slice A0 l0.length c0, .int .i64 a1] w fun e w' => e = .returned (.tuple #[.int .i64 r1, .int .i64 r2]) ∧ Below w.heap.size w w' := by
 have HR0 := Aside0.mk hr0
 have HC0 := Aside0.mk hc0
 clear hr0 hc0
 have HB := Aside0.mk (Below.refl w.heap.size w)
 have H : ((impl_tempoCode.f k l0 a1 a1).bind fun t330 => (if t330 = 0 then ((impl_tempoAt.f k l0 a1).bind fun t331 => (some (t331, 0))) else (some (0, t330)))) = some (r1, r2) := h
 clear h
 replace H := Option.bind_eq_some_iff.mp H
 obtain ⟨t330, A30, H⟩ := H
 replace H : (if t330 = 0 then ((impl_tempoAt.f k l0 a1).bind fun t331 => (some (t331, 0))) else (some (0, t330))) = some (r1, r2) := H
 have A3 := Aside0.mk A30
 clear A30
 by_cases c4 : t330 = 0
 ·rw [if_pos c4] at H
  have c4b0 : (t330 == 0) = true := beq_iff_eq.mpr c4
  have c4b1 : (t330 != 0) = false := bne_eq_false_iff_eq.mpr c4
  clear c4
  replace H := Option.bind_eq_some_iff.mp H
  obtain ⟨t331, A50, H⟩ := H
  replace H : (some (t331, 0)) = some (r1, r2) := H
  have A5 := Aside0.mk A50
  clear A50
  simp only [Option.some.injEq, Prod.mk.injEq] at H
  obtain ⟨rfl, rfl⟩ := H
  go_enter Try.func53, Try.ntmps53
  go_wp2_with (first | ((with_reducible refine gate_callee (f := 121) rfl ?_); refine goesL_ (some 10) rfl rfl Try.func121 (by kernel_rfl) rfl #[.slice A0 l0.length c0, .int .i64 a1, .int .i64 a1] rfl (by (try simp only [List.map_toArray, List.map_cons, List.map_nil]); first | done | rfl | (simp only [List.length_drop, List.length_take]; rfl)) ?_; (with_reducible refine (impl_tempoCode.calls k _ _ l0 a1 a1 t330 _ ?side1 ?side2 A3.out).mono ?_); (case side1 => repeat (first | exact HR0.out | (with_reducible refine Kd.C_alloc ?_ _) | (with_reducible refine Kd.C_drewN ?_ _) | (with_reducible refine Kd.C_drew ?_))); (case side2 => exact HC0.out); rintro e w6 ⟨rfl, hb⟩; refine ⟨_, rfl, ?_⟩; have n0_ := Aside0.mk (below_step (by repeat (first | (with_reducible first | exact HB.out | apply below_alloc | apply pw_below_drewN | apply below_drew1) | exact HB.out)) hb); clear HB; have HB := n0_; clear n0_; (try clear hb); (try clear hb2); (try clear hk); (try clear hi)) | ((with_reducible refine gate_callee (f := 133) rfl ?_); refine goesL_ (some 16) rfl rfl Try.func133 (by kernel_rfl) rfl #[.slice A0 l0.length c0, .int .i64 a1] rfl (by (try simp only [List.map_toArray, List.map_cons, List.map_nil]); first | done | rfl | (simp only [List.length_drop, List.length_take]; rfl)) ?_; (with_reducible refine (impl_tempoAt.calls k _ _ l0 a1 t331 _ ?side1 ?side2 A5.out).mono ?_); (case side1 => repeat (first | exact (Kd.C_below HR0.out HB.out) | (with_reducible refine Kd.C_alloc ?_ _) | (with_reducible refine Kd.C_drewN ?_ _) | (with_reducible refine Kd.C_drew ?_))); (case side2 => exact HC0.out); rintro e w7 ⟨rfl, hb⟩; refine ⟨_, rfl, ?_⟩; have n0_ := Aside0.mk (below_step (by repeat (first | (with_reducible first | exact HB.out | apply below_alloc | apply pw_below_drewN | apply below_drew1) | exact HB.out)) hb); clear HB; have HB := n0_; clear n0_; (try clear hb); (try clear hb2); (try clear hk); (try clear hi)))
  go_ret2
  exact ⟨by first | rfl | (simp [errW_none, errW_some] <;> rfl) | (simp [*, errW_none, errW_some] <;> rfl), by repeat (first | (with_reducible first | exact HB.out | apply below_alloc | apply pw_below_drewN | apply below_drew1) | exact HB.out)⟩
 ·rw [if_neg c4] at H
  have c4b0 : (t330 == 0) = false := beq_eq_false_iff_ne.mpr c4
  have c4b1 : (t330 != 0) = true := bne_iff_ne.mpr c4
  simp only [Option.some.injEq, Prod.mk.injEq] at H
  obtain ⟨rfl, rfl⟩ := H
  go_enter Try.func53, Try.ntmps53
  go_wp2_with (first | ((with_reducible refine gate_callee (f := 121) rfl ?_); refine goesL_ (some 10) rfl rfl Try.func121 (by kernel_rfl) rfl #[.slice A0 l0.length c0, .int .i64 a1, .int .i64 a1] rfl (by (try simp only [List.map_toArray, List.map_cons, List.map_nil]); first | done | rfl | (simp only [List.length_drop, List.length_take]; rfl)) ?_; (with_reducible refine (impl_tempoCode.calls k _ _ l0 a1 a1 t330 _ ?side1 ?side2 A3.out).mono ?_); (case side1 => repeat (first | exact HR0.out | (with_reducible refine Kd.C_alloc ?_ _) | (with_reducible refine Kd.C_drewN ?_ _) | (with_reducible refine Kd.C_drew ?_))); (case side2 => exact HC0.out); rintro e w8 ⟨rfl, hb⟩; refine ⟨_, rfl, ?_⟩; have n0_ := Aside0.mk (below_step (by repeat (first | (with_reducible first | exact HB.out | apply below_alloc | apply pw_below_drewN | apply below_drew1) | exact HB.out)) hb); clear HB; have HB := n0_; clear n0_; (try clear hb); (try clear hb2); (try clear hk); (try clear hi)))
  go_ret2
  exact ⟨by first | rfl | (simp [errW_none, errW_some] <;> rfl) | (simp [*, errW_none, errW_some] <;> rfl), by repeat (first | (with_reducible first | exact HB.out | apply below_alloc | apply pw_below_drewN | apply below_drew1) | exact HB.out)⟩

/-! ### spec_ValidTempo: function 54 -/
def spec_ValidTempo.f (k : Nat) (l0 : List (S141)) : Option (Bool) := (spec_l22Ok.f k l0).bind fun t332 => (some t332)
theorem spec_ValidTempo.mono : ∀ a0 k, LeO (spec_ValidTempo.f k a0) (spec_ValidTempo.f (k + 1) a0) := by
 intro a0 k
 unfold spec_ValidTempo.f
 repeat' first
   | (with_reducible exact spec_l22Ok.mono _ _)
   | (with_reducible exact LeO.refl _)
   | (with_reducible exact LeO.none _)
   | (with_reducible refine LeO.ite ?_ ?_)
   | (with_reducible refine LeO.bind ?_ (fun _ => ?_))
   | exact spec_l22Ok.mono _ _
   | exact LeO.none _
   | refine LeO.ite ?_ ?_
   | refine LeO.bind ?_ (fun _ => ?_)
set_option maxHeartbeats 8000000 in
set_option maxRecDepth 100000 in
theorem spec_ValidTempo.calls (k : Nat) (A0 : Option Addr) (c0 : Nat) (l0 : List (S141)) (r : Bool) (w : World) (hr0 : Kd.C k141 w A0 l0.length l0) (hc0 : l0.length ≤ c0) (h : spec_ValidTempo.f k l0 = some r) :
  Calls Try.prog 54 #[.slice A0 l0.length c0] w fun e w' => e = .returned (.bool r) ∧ Below w.heap.size w w' := by
 have HR0 := Aside0.mk hr0
 have HC0 := Aside0.mk hc0
 clear hr0 hc0
 have HB := Aside0.mk (Below.refl w.heap.size w)
 have H : ((spec_l22Ok.f k l0).bind fun t332 => (some t332)) = some r := h
 clear h
 replace H := Option.bind_eq_some_iff.mp H
 obtain ⟨t332, A20, H⟩ := H
 replace H : (some t332) = some r := H
 have A2 := Aside0.mk A20
 clear A20
 obtain rfl := Option.some.inj H
 go_enter Try.func54, Try.ntmps54
 go_wp2_with (first | ((with_reducible refine gate_callee (f := 123) rfl ?_); refine goesL_ (some 4) rfl rfl Try.func123 (by kernel_rfl) rfl #[.slice A0 l0.length c0] rfl (by (try simp only [List.map_toArray, List.map_cons, List.map_nil]); first | done | rfl | (simp only [List.length_drop, List.length_take]; rfl)) ?_; (with_reducible refine (spec_l22Ok.calls k _ _ l0 t332 _ ?side1 ?side2 A2.out).mono ?_); (case side1 => repeat (first | exact HR0.out | (with_reducible refine Kd.C_alloc ?_ _) | (with_reducible refine Kd.C_drewN ?_ _) | (with_reducible refine Kd.C_drew ?_))); (case side2 => exact HC0.out); rintro e w3 ⟨rfl, hb⟩; refine ⟨_, rfl, ?_⟩; have n0_ := Aside0.mk (below_step (by repeat (first | (with_reducible first | exact HB.out | apply below_alloc | apply pw_below_drewN | apply below_drew1) | exact HB.out)) hb); clear HB; have HB := n0_; clear n0_; (try clear hb); (try clear hb2); (try clear hk); (try clear hi)))
 go_ret
 exact ⟨by first | rfl | (simp [errW_none, errW_some] <;> rfl) | (simp [*, errW_none, errW_some] <;> rfl), by repeat (first | (with_reducible first | exact HB.out | apply below_alloc | apply pw_below_drewN | apply below_drew1) | exact HB.out)⟩

end Go.Proofs.Ytfledgccnaknpaa.PFnTimes
