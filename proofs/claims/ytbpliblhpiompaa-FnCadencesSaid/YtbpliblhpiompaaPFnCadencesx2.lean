-- written by xprint.py, a program of this repo over the kit's print; not trusted: Lean checks it
import Derived.Test.YtbpliblhpiompaaPFnCadencesx0
import Derived.Test.YtbpliblhpiompaaPFnCadencesx1
namespace Go.Proofs.Ytbpliblhpiompaa.PFnCadences
open Go.RowKit Go.Proofs.YtbpliblhpiompaaW.PrintWords Go.Proofs.YtbpliblhpiompaaW.PrintLast Go.Proofs.YtbpliblhpiompaaW.PrintMore
attribute [local go_sem] max2_int min2_int max_two min_two max_three min_three max_four min_four   -- for this text's walks alone
set_option linter.unusedVariables false
set_option linter.unusedSimpArgs false

/-- A state of type 26 at block g of W; what its slices lead to came in by w0. -/
def IsS26 (w0 W : World) (g : Nat) (f0 : ByteArray) (f1 : List Int) (f2 : List Int) : Prop := ∃ A1 c1, ∃ A2 c2, W.heap[g]? = some (.cells #[.string f0, .slice A1 f1.length c1, .slice A2 f2.length c2] 26 (0, 0)) ∧ w0.heap.size ≤ g ∧ (Kd.C (Kd.int .i64) w0 A1 f1.length f1 ∧ f1.length ≤ c1) ∧ (Kd.C (Kd.int .i64) w0 A2 f2.length f2 ∧ f2.length ≤ c2)
theorem IsS26.grown {w0 W : World} {g : Nat} {f0 : ByteArray} {f1 : List Int} {f2 : List Int} {W1 : World} {row : Option Nat} (h : IsS26 w0 W g f0 f1 f2) (hw : W.grownBy W1 row) (hne : some g ≠ row) : IsS26 w0 W1 g f0 f1 f2 := by
  obtain ⟨A1, c1, A2, c2, hb, hg, hr1, hr2⟩ := h
  exact ⟨A1, c1, A2, c2, blk_grown hb hw hne, hg, hr1, hr2⟩
theorem IsS26.kept {w0 W : World} {g : Nat} {f0 : ByteArray} {f1 : List Int} {f2 : List Int} {W1 : World} {S : Nat → Prop} (h : IsS26 w0 W g f0 f1 f2) (hk : Kept W W1 S) (hne : ¬ S g) : IsS26 w0 W1 g f0 f1 f2 := by
  obtain ⟨A1, c1, A2, c2, hb, hg, hr1, hr2⟩ := h
  exact ⟨A1, c1, A2, c2, blk_kept hb hk hne, hg, hr1, hr2⟩
theorem IsS26.below {w0 W : World} {g : Nat} {f0 : ByteArray} {f1 : List Int} {f2 : List Int} {W1 : World} (h : IsS26 w0 W g f0 f1 f2) (hw : Below W.heap.size W W1) : IsS26 w0 W1 g f0 f1 f2 := h.grown (grown_of_below hw none) (by simp)
theorem IsS26.alloc {w0 W : World} {g : Nat} {f0 : ByteArray} {f1 : List Int} {f2 : List Int} (h : IsS26 w0 W g f0 f1 f2) (o : Obj) : IsS26 w0 (W.alloc o) g f0 f1 f2 := h.below (below_alloc (Below.refl _ _) o)
theorem IsS26.drewN {w0 W : World} {g : Nat} {f0 : ByteArray} {f1 : List Int} {f2 : List Int} (h : IsS26 w0 W g f0 f1 f2) (m : Nat) : IsS26 w0 (W.drewN m) g f0 f1 f2 := h
theorem IsS26.drew {w0 W : World} {g : Nat} {f0 : ByteArray} {f1 : List Int} {f2 : List Int} (h : IsS26 w0 W g f0 f1 f2) : IsS26 w0 W.drew g f0 f1 f2 := h
theorem IsS26.at_ {w0 W : World} {g : Nat} {f0 : ByteArray} {f1 : List Int} {f2 : List Int} {w' : World} {m : Nat} (hq : W.drewN m = w') (h : IsS26 w0 W g f0 f1 f2) : IsS26 w0 w' g f0 f1 f2 := by subst hq; exact IsS26.drewN h m
theorem IsS26.apart {w0 W : World} {g : Nat} {f0 : ByteArray} {f1 : List Int} {f2 : List Int} {α : Type} {d : Kd α} {e : Nat} {base : Nat} {ok : Nat → Prop} {v : Value} {xs : List α} (h : IsS26 w0 W g f0 f1 f2) (ho : d.R e W base ok v xs) (ht : ∀ q, q ∈ e :: d.E → q ≠ 26) : d.R e W base (fun k => ok k ∧ k ≠ g) v xs := by
  obtain ⟨A1, c1, A2, c2, hb, hg, hr1, hr2⟩ := h
  exact Kd.R_types ho hb ht
theorem IsS26.own_ne {w0 W : World} {g : Nat} {f0 : ByteArray} {f1 : List Int} {f2 : List Int} {α : Type} {d : Kd α} {e : Nat} {base : Nat} {ok : Nat → Prop} {v : Value} {xs : List α} (h : IsS26 w0 W g f0 f1 f2) (ho : d.R e W base ok v xs) (ht : e ≠ 26) : some g ≠ v.ownBlock := by
  obtain ⟨A1, c1, A2, c2, hb, hg, hr1, hr2⟩ := h
  exact Kd.R_ne ho hb ht
theorem IsS26.lt {w0 W : World} {g : Nat} {f0 : ByteArray} {f1 : List Int} {f2 : List Int} (h : IsS26 w0 W g f0 f1 f2) : g < W.heap.size := by
  obtain ⟨A1, c1, A2, c2, hb, hg, hr1, hr2⟩ := h
  exact blk_lt hb
theorem IsS26.ge {w0 W : World} {g : Nat} {f0 : ByteArray} {f1 : List Int} {f2 : List Int} (h : IsS26 w0 W g f0 f1 f2) : w0.heap.size ≤ g := by
  obtain ⟨A1, c1, A2, c2, hb, hg, hr1, hr2⟩ := h
  exact hg
theorem IsS26.ne_blk {w0 W : World} {g : Nat} {f0 : ByteArray} {f1 : List Int} {f2 : List Int} {a : Nat} {cs : Array Value} {t : TypeId} {fr : Nat × Nat} (h : IsS26 w0 W g f0 f1 f2) (hb2 : W.heap[a]? = some (.cells cs t fr)) (ht : t ≠ 26) : g ≠ a := by
  obtain ⟨A1, c1, A2, c2, hb, hg, hr1, hr2⟩ := h
  rintro rfl
  rw [hb] at hb2
  injection hb2 with hb2
  injection hb2 with _ ht2
  exact ht ht2.symm
theorem IsS26.far {w0 W : World} {g : Nat} {f0 : ByteArray} {f1 : List Int} {f2 : List Int} {p : Addr} (h : IsS26 w0 W g f0 f1 f2) (hne : g ≠ p.block) (u : Value) : IsS26 w0 (W.setCell p u) g f0 f1 f2 := by
  obtain ⟨A1, c1, A2, c2, hb, hg, hr1, hr2⟩ := h
  exact ⟨A1, c1, A2, c2, blk_far hb hne u, hg, hr1, hr2⟩
theorem cellS26_0 {W : World} {g : Nat} {A1 : Option Addr} {c1 : Nat} {A2 : Option Addr} {c2 : Nat} {f0 : ByteArray} {f1 : List Int} {f2 : List Int} (h : W.heap[g]? = some (.cells #[.string f0, .slice A1 f1.length c1, .slice A2 f2.length c2] 26 (0, 0))) : W.cell? ⟨g, 0, none⟩ = some (.string f0) := (blk_cell h 0).trans rfl
theorem IsS26.set_0 {w0 W : World} {g : Nat} {f0 : ByteArray} {f1 : List Int} {f2 : List Int} (h : IsS26 w0 W g f0 f1 f2) (x : ByteArray) : IsS26 w0 (W.setCell ⟨g, 0, none⟩ (.string x)) g x f1 f2 := by
  obtain ⟨A1, c1, A2, c2, hb, hg, hr1, hr2⟩ := h
  exact ⟨A1, c1, A2, c2, by simpa using blk_set hb 0 (.string x), hg, hr1, hr2⟩
theorem cellS26_1 {W : World} {g : Nat} {A1 : Option Addr} {c1 : Nat} {A2 : Option Addr} {c2 : Nat} {f0 : ByteArray} {f1 : List Int} {f2 : List Int} (h : W.heap[g]? = some (.cells #[.string f0, .slice A1 f1.length c1, .slice A2 f2.length c2] 26 (0, 0))) : W.cell? ⟨g, 1, none⟩ = some (.slice A1 f1.length c1) := (blk_cell h 1).trans rfl
theorem cellS26_2 {W : World} {g : Nat} {A1 : Option Addr} {c1 : Nat} {A2 : Option Addr} {c2 : Nat} {f0 : ByteArray} {f1 : List Int} {f2 : List Int} (h : W.heap[g]? = some (.cells #[.string f0, .slice A1 f1.length c1, .slice A2 f2.length c2] 26 (0, 0))) : W.cell? ⟨g, 2, none⟩ = some (.slice A2 f2.length c2) := (blk_cell h 2).trans rfl
theorem IsS26.new (w0 W : World) (A1 : Option Addr) (c1 : Nat) (A2 : Option Addr) (c2 : Nat) (f0 : ByteArray) (f1 : List Int) (f2 : List Int) (hB : Below w0.heap.size w0 W) (hr1 : (Kd.C (Kd.int .i64) w0 A1 f1.length f1 ∧ f1.length ≤ c1)) (hr2 : (Kd.C (Kd.int .i64) w0 A2 f2.length f2 ∧ f2.length ≤ c2)) : IsS26 w0 (W.alloc (.cells #[.string f0, .slice A1 f1.length c1, .slice A2 f2.length c2] 26)) W.heap.size f0 f1 f2 := ⟨A1, c1, A2, c2, by simpa using heap_alloc_new W _, hB.size, hr1, hr2⟩

/-! ### spec_l17Ok: function 29 -/
mutual
def spec_l17Ok.j0 : Nat → Int → Bool → ByteArray → List Int → List Int → Option (Bool × ByteArray)
  | 0, _, _, _, _, _ => none
  | k + 1, x3, x29, x1000, x1001, x1002 => if x29 = true then (some (false, x1000)) else (spec_l17Ok.l0 k x3 0 x1000 x1001 x1002)
def spec_l17Ok.l0 : Nat → Int → Int → ByteArray → List Int → List Int → Option (Bool × ByteArray)
  | 0, _, _, _, _, _ => none
  | k + 1, x3, x4, x1000, x1001, x1002 => if x4 < x3 then (if 0 ≤ x4 then (if x4 < (x1001.length : Int) then ((spec_l00In.f (rd x1001 x4) 1 16).bind fun t121 => (if t121 = true then (if x4 = 0 then (if x4 < (x1002.length : Int) then (if (rd x1002 x4) = 1 then (if x4 > 0 then ((spec_l00In.f (rd x1002 x4) 2 3).bind fun t124 => (if t124 = true then (spec_l17Ok.l0 k x3 (wrap64 (x4 + 1)) x1000 x1001 x1002) else (some (false, x1000)))) else (spec_l17Ok.l0 k x3 (wrap64 (x4 + 1)) x1000 x1001 x1002)) else (some (false, x1000))) else (none)) else (if x4 > 0 then (if x4 < (x1002.length : Int) then ((spec_l00In.f (rd x1002 x4) 2 3).bind fun t126 => (if t126 = true then (spec_l17Ok.l0 k x3 (wrap64 (x4 + 1)) x1000 x1001 x1002) else (some (false, x1000)))) else (none)) else (spec_l17Ok.l0 k x3 (wrap64 (x4 + 1)) x1000 x1001 x1002))) else (some (false, x1000)))) else (none)) else (none)) else ((spec_l17Sum.f k x1001).bind fun t119 => (some (decide (t119 ≤ 32), x1000)))
end
def spec_l17Ok.f (k : Nat) (s0_0 : ByteArray) (s0_1 : List Int) (s0_2 : List Int) : Option (Bool × ByteArray) := (spec_l01Name.f k s0_0).bind fun t117 => (if t117 = true then ((spec_l00In.f (s0_1.length : Int) 1 8).bind fun t118 => (if t118 = true then (spec_l17Ok.j0 k (s0_1.length : Int) ((s0_2.length : Int) != (s0_1.length : Int)) s0_0 s0_1 s0_2) else (spec_l17Ok.j0 k (s0_1.length : Int) true s0_0 s0_1 s0_2))) else (spec_l17Ok.j0 k (s0_1.length : Int) true s0_0 s0_1 s0_2))
theorem spec_l17Ok.mono_l : ∀ k, (∀ y0 y1 y2 y3 y4, LeO (spec_l17Ok.j0 k y0 y1 y2 y3 y4) (spec_l17Ok.j0 (k + 1) y0 y1 y2 y3 y4)) ∧ (∀ y0 y1 y2 y3 y4, LeO (spec_l17Ok.l0 k y0 y1 y2 y3 y4) (spec_l17Ok.l0 (k + 1) y0 y1 y2 y3 y4))
  | 0 => ⟨fun _ _ _ _ _ r h => by simp [spec_l17Ok.j0] at h, fun _ _ _ _ _ r h => by simp [spec_l17Ok.l0] at h⟩
  | k + 1 => by
    obtain ⟨ih0, ih1⟩ := spec_l17Ok.mono_l k
    refine ⟨?_, ?_⟩
    · intro y0 y1 y2 y3 y4
      unfold spec_l17Ok.j0
      repeat' first
      | (with_reducible exact ih0 _ _ _ _ _)
      | (with_reducible exact ih1 _ _ _ _ _)
      | (with_reducible exact spec_l01Name.mono _ _)
      | (with_reducible exact spec_l17Sum.mono _ _)
      | (with_reducible exact LeO.refl _)
      | (with_reducible exact LeO.none _)
      | (with_reducible refine LeO.ite ?_ ?_)
      | (with_reducible refine LeO.bind ?_ (fun _ => ?_))
      | exact ih0 _ _ _ _ _
      | exact ih1 _ _ _ _ _
      | exact spec_l01Name.mono _ _
      | exact spec_l17Sum.mono _ _
      | exact LeO.none _
      | refine LeO.ite ?_ ?_
      | refine LeO.bind ?_ (fun _ => ?_)
    · intro y0 y1 y2 y3 y4
      unfold spec_l17Ok.l0
      repeat' first
      | (with_reducible exact ih0 _ _ _ _ _)
      | (with_reducible exact ih1 _ _ _ _ _)
      | (with_reducible exact spec_l01Name.mono _ _)
      | (with_reducible exact spec_l17Sum.mono _ _)
      | (with_reducible exact LeO.refl _)
      | (with_reducible exact LeO.none _)
      | (with_reducible refine LeO.ite ?_ ?_)
      | (with_reducible refine LeO.bind ?_ (fun _ => ?_))
      | exact ih0 _ _ _ _ _
      | exact ih1 _ _ _ _ _
      | exact spec_l01Name.mono _ _
      | exact spec_l17Sum.mono _ _
      | exact LeO.none _
      | refine LeO.ite ?_ ?_
      | refine LeO.bind ?_ (fun _ => ?_)
theorem spec_l17Ok.mono : ∀ a0 a1 a2 k, LeO (spec_l17Ok.f k a0 a1 a2) (spec_l17Ok.f (k + 1) a0 a1 a2) := by
  intro a0 a1 a2 k
  obtain ⟨ih0, ih1⟩ := spec_l17Ok.mono_l k
  unfold spec_l17Ok.f
  repeat' first
      | (with_reducible exact ih0 _ _ _ _ _)
      | (with_reducible exact ih1 _ _ _ _ _)
      | (with_reducible exact spec_l01Name.mono _ _)
      | (with_reducible exact spec_l17Sum.mono _ _)
      | (with_reducible exact LeO.refl _)
      | (with_reducible exact LeO.none _)
      | (with_reducible refine LeO.ite ?_ ?_)
      | (with_reducible refine LeO.bind ?_ (fun _ => ?_))
      | exact ih0 _ _ _ _ _
      | exact ih1 _ _ _ _ _
      | exact spec_l01Name.mono _ _
      | exact spec_l17Sum.mono _ _
      | exact LeO.none _
      | refine LeO.ite ?_ ?_
      | refine LeO.bind ?_ (fun _ => ?_)
set_option maxHeartbeats 8000000 in
set_option maxRecDepth 100000 in
theorem spec_l17Ok.calls (k : Nat) (g : Nat) (s0_0 : ByteArray) (s0_1 : List Int) (s0_2 : List Int) (r1 : Bool) (r2 : ByteArray) (w0 w : World) (hI : IsS26 w0 w g s0_0 s0_1 s0_2) (hB : Below w0.heap.size w0 w) (h : spec_l17Ok.f k s0_0 s0_1 s0_2 = some (r1, r2)) :
    Calls Try.prog 29 #[.pointer (some ⟨g, 0, none⟩)] w fun e w' => e = .returned (.bool r1) ∧ IsS26 w0 w' g r2 s0_1 s0_2 ∧ Below w0.heap.size w0 w' ∧ KeepBut w w' g none := by
  have HI0 := Aside0.mk hI
  have HK := Aside0.mk (KeepBut.refl w g none)
  have HL := Aside0.mk hB.size
  clear hI
  have HW0 := Aside0.mk hB.size
  have HB := Aside0.mk hB
  clear hB
  have H : ((spec_l01Name.f k s0_0).bind fun t117 => (if t117 = true then ((spec_l00In.f (s0_1.length : Int) 1 8).bind fun t118 => (if t118 = true then (spec_l17Ok.j0 k (s0_1.length : Int) ((s0_2.length : Int) != (s0_1.length : Int)) s0_0 s0_1 s0_2) else (spec_l17Ok.j0 k (s0_1.length : Int) true s0_0 s0_1 s0_2))) else (spec_l17Ok.j0 k (s0_1.length : Int) true s0_0 s0_1 s0_2))) = some (r1, r2) := h
  clear h
  have HC2 := Aside0.mk H
  clear H
  obtain ⟨ASz3_1, cSz3_1, ASz3_2, cSz3_2, HGz3, hgz3, HSz3_1, HSz3_2⟩ := HI0.out
  have hcz3_0 := cellS26_0 HGz3
  have hcz3_1 := cellS26_1 HGz3
  have hcz3_2 := cellS26_2 HGz3
  have hfz3_0 := blk_frozen HGz3 0
  clear HGz3 hgz3
  go_enter Try.func29, Try.ntmps29
  go_upto_region 2 with (fail)
  go_cut [29] (fun v29 wc => ∃ (kq : Nat) (x29_1 : Bool), v29 = .bool x29_1 ∧ Aside0 (spec_l17Ok.j0 kq (s0_1.length : Int) x29_1 s0_0 s0_1 s0_2 = some (r1, r2)) ∧ Aside0 (kq ≤ k) ∧ Aside0 (IsS26 w0 wc g s0_0 s0_1 s0_2) ∧ Aside0 (KeepBut w wc g none) ∧ Aside0 (Below w0.heap.size w0 wc))
  case first =>
    have H := HC2.out
    clear HC2
    replace H := Option.bind_eq_some_iff.mp H
    obtain ⟨t117, A40, H⟩ := H
    replace H : (if t117 = true then ((spec_l00In.f (s0_1.length : Int) 1 8).bind fun t118 => (if t118 = true then (spec_l17Ok.j0 k (s0_1.length : Int) ((s0_2.length : Int) != (s0_1.length : Int)) s0_0 s0_1 s0_2) else (spec_l17Ok.j0 k (s0_1.length : Int) true s0_0 s0_1 s0_2))) else (spec_l17Ok.j0 k (s0_1.length : Int) true s0_0 s0_1 s0_2)) = some (r1, r2) := H
    have A4 := Aside0.mk A40
    clear A40
    by_cases c5 : t117 = true
    · subst c5
      have H1 : ((spec_l00In.f (s0_1.length : Int) 1 8).bind fun t118 => (if t118 = true then (spec_l17Ok.j0 k (s0_1.length : Int) ((s0_2.length : Int) != (s0_1.length : Int)) s0_0 s0_1 s0_2) else (spec_l17Ok.j0 k (s0_1.length : Int) true s0_0 s0_1 s0_2))) = some (r1, r2) := by rw [if_pos rfl] at H; exact H
      clear H
      have H := H1
      clear H1
      replace H := Option.bind_eq_some_iff.mp H
      obtain ⟨t118, A60, H⟩ := H
      replace H : (if t118 = true then (spec_l17Ok.j0 k (s0_1.length : Int) ((s0_2.length : Int) != (s0_1.length : Int)) s0_0 s0_1 s0_2) else (spec_l17Ok.j0 k (s0_1.length : Int) true s0_0 s0_1 s0_2)) = some (r1, r2) := H
      have A6 := Aside0.mk A60
      (try have EA6_A4 : t118 = t117 := Option.some.inj (A6.out.symm.trans A4.out))
      clear A60
      by_cases c7 : t118 = true
      · subst c7
        have H1 : (spec_l17Ok.j0 k (s0_1.length : Int) ((s0_2.length : Int) != (s0_1.length : Int)) s0_0 s0_1 s0_2) = some (r1, r2) := by rw [if_pos rfl] at H; exact H
        clear H
        have H := H1
        clear H1
        have H' := Aside0.mk H
        clear H
        obtain ⟨ASz8_1, cSz8_1, ASz8_2, cSz8_2, HGz8, hgz8, HSz8_1, HSz8_2⟩ := HI0.out
        have hcz8_0 := cellS26_0 HGz8
        have hcz8_1 := cellS26_1 HGz8
        have hcz8_2 := cellS26_2 HGz8
        have hfz8_0 := blk_frozen HGz8 0
        clear HGz8 hgz8
        go_wp2_with (first | ((with_reducible refine gate_callee (f := 59) rfl ?_); refine goesL_ (some 14) rfl rfl Try.func59 (by kernel_rfl) rfl #[.string s0_0] rfl (by (try simp only [List.map_toArray, List.map_cons, List.map_nil]); first | done | rfl | (simp only [List.length_drop, List.length_take]; rfl)) ?_; (with_reducible refine (spec_l01Name.calls k s0_0 true _ A4.out).mono ?_); rintro e w' ⟨rfl, ⟨nd, rfl⟩⟩; refine ⟨_, rfl, ?_⟩) | (go_at_call 60; (with_reducible refine (spec_l00In.calls (s0_1.length : Int) 1 8 true _ A6.out).mono ?_); rintro e w' ⟨rfl, ⟨nd, rfl⟩⟩))
        go_meet
        case rel => exact ⟨_, (((s0_2.length : Int) != (s0_1.length : Int))), (by first | rfl | (simp; done) | (simp [*]; done)), H', ⟨by first | omega | exact Nat.le_refl _⟩, ⟨by repeat (first | (with_reducible first | exact HI0.out | apply IsS26.alloc | apply IsS26.drewN | apply IsS26.drew | apply IsS26.set_0) | exact HI0.out)⟩, ⟨by repeat (first | (with_reducible first | exact HK.out | apply KeepBut.set_ | apply keep_drewN | apply keep_drew | apply keep_alloc) | exact HK.out)⟩, ⟨by repeat (first | (with_reducible first | exact HB.out | apply below_alloc | apply pw_below_drewN | apply below_drew1 | refine below_set ?_ (IsS26.ge HI0.out)) | exact HB.out)⟩⟩
      · replace c7 := Bool.eq_false_iff.mpr c7
        subst c7
        have H1 : (spec_l17Ok.j0 k (s0_1.length : Int) true s0_0 s0_1 s0_2) = some (r1, r2) := by rw [if_neg (show ¬ (false = true) by decide)] at H; exact H
        clear H
        have H := H1
        clear H1
        have H' := Aside0.mk H
        clear H
        obtain ⟨ASz9_1, cSz9_1, ASz9_2, cSz9_2, HGz9, hgz9, HSz9_1, HSz9_2⟩ := HI0.out
        have hcz9_0 := cellS26_0 HGz9
        have hcz9_1 := cellS26_1 HGz9
        have hcz9_2 := cellS26_2 HGz9
        have hfz9_0 := blk_frozen HGz9 0
        clear HGz9 hgz9
        go_wp2_with (first | ((with_reducible refine gate_callee (f := 59) rfl ?_); refine goesL_ (some 14) rfl rfl Try.func59 (by kernel_rfl) rfl #[.string s0_0] rfl (by (try simp only [List.map_toArray, List.map_cons, List.map_nil]); first | done | rfl | (simp only [List.length_drop, List.length_take]; rfl)) ?_; (with_reducible refine (spec_l01Name.calls k s0_0 true _ A4.out).mono ?_); rintro e w' ⟨rfl, ⟨nd, rfl⟩⟩; refine ⟨_, rfl, ?_⟩) | (go_at_call 60; (with_reducible refine (spec_l00In.calls (s0_1.length : Int) 1 8 false _ A6.out).mono ?_); rintro e w' ⟨rfl, ⟨nd, rfl⟩⟩))
        go_meet
        case rel => exact ⟨_, (true), (by first | rfl | (simp; done) | (simp [*]; done)), H', ⟨by first | omega | exact Nat.le_refl _⟩, ⟨by repeat (first | (with_reducible first | exact HI0.out | apply IsS26.alloc | apply IsS26.drewN | apply IsS26.drew | apply IsS26.set_0) | exact HI0.out)⟩, ⟨by repeat (first | (with_reducible first | exact HK.out | apply KeepBut.set_ | apply keep_drewN | apply keep_drew | apply keep_alloc) | exact HK.out)⟩, ⟨by repeat (first | (with_reducible first | exact HB.out | apply below_alloc | apply pw_below_drewN | apply below_drew1 | refine below_set ?_ (IsS26.ge HI0.out)) | exact HB.out)⟩⟩
    · replace c5 := Bool.eq_false_iff.mpr c5
      subst c5
      have H1 : (spec_l17Ok.j0 k (s0_1.length : Int) true s0_0 s0_1 s0_2) = some (r1, r2) := by rw [if_neg (show ¬ (false = true) by decide)] at H; exact H
      clear H
      have H := H1
      clear H1
      have H' := Aside0.mk H
      clear H
      obtain ⟨ASz10_1, cSz10_1, ASz10_2, cSz10_2, HGz10, hgz10, HSz10_1, HSz10_2⟩ := HI0.out
      have hcz10_0 := cellS26_0 HGz10
      have hcz10_1 := cellS26_1 HGz10
      have hcz10_2 := cellS26_2 HGz10
      have hfz10_0 := blk_frozen HGz10 0
      clear HGz10 hgz10
      go_wp2_with (first | ((with_reducible refine gate_callee (f := 59) rfl ?_); refine goesL_ (some 14) rfl rfl Try.func59 (by kernel_rfl) rfl #[.string s0_0] rfl (by (try simp only [List.map_toArray, List.map_cons, List.map_nil]); first | done | rfl | (simp only [List.length_drop, List.length_take]; rfl)) ?_; (with_reducible refine (spec_l01Name.calls k s0_0 false _ A4.out).mono ?_); rintro e w' ⟨rfl, ⟨nd, rfl⟩⟩; refine ⟨_, rfl, ?_⟩))
      go_meet
      case rel => exact ⟨_, (true), (by first | rfl | (simp; done) | (simp [*]; done)), H', ⟨by first | omega | exact Nat.le_refl _⟩, ⟨by repeat (first | (with_reducible first | exact HI0.out | apply IsS26.alloc | apply IsS26.drewN | apply IsS26.drew | apply IsS26.set_0) | exact HI0.out)⟩, ⟨by repeat (first | (with_reducible first | exact HK.out | apply KeepBut.set_ | apply keep_drewN | apply keep_drew | apply keep_alloc) | exact HK.out)⟩, ⟨by repeat (first | (with_reducible first | exact HB.out | apply below_alloc | apply pw_below_drewN | apply below_drew1 | refine below_set ?_ (IsS26.ge HI0.out)) | exact HB.out)⟩⟩
  case rest =>
    clear HC2
    try clear c2
    try clear p2
    try clear c5
    try clear c7
    try clear hcz10_0
    try clear hcz10_1
    try clear hcz10_2
    try clear hcz3_0
    try clear hcz3_1
    try clear hcz3_2
    try clear hcz8_0
    try clear hcz8_1
    try clear hcz8_2
    try clear hcz9_0
    try clear hcz9_1
    try clear hcz9_2
    try clear hfz10_0
    try clear hfz3_0
    try clear hfz8_0
    try clear hfz9_0
    obtain ⟨kq, x29_1, rfl, HA, HJ1, HI0, HK, HB⟩ := hcut
    cases kq with
    | zero => exact absurd HA.out (by simp [spec_l17Ok.j0])
    | succ kj1 =>
      have H := HA.out
      clear HA
      simp only [spec_l17Ok.j0] at H
      by_cases c11 : x29_1 = true
      · subst c11
        have H1 : (some (false, s0_0)) = some (r1, r2) := by rw [if_pos rfl] at H; exact H
        clear H
        have H := H1
        clear H1
        simp only [Option.some.injEq, Prod.mk.injEq] at H
        obtain ⟨rfl, rfl⟩ := H
        go_wp2
        go_ret
        exact ⟨by first | rfl | (simp [errW_none, errW_some] <;> rfl) | (simp [*, errW_none, errW_some] <;> rfl), by repeat (first | (with_reducible first | exact HI0.out | apply IsS26.alloc | apply IsS26.drewN | apply IsS26.drew | apply IsS26.set_0) | exact HI0.out), by repeat (first | (with_reducible first | exact HB.out | apply below_alloc | apply pw_below_drewN | apply below_drew1 | refine below_set ?_ (IsS26.ge HI0.out)) | exact HB.out), by repeat (first | (with_reducible first | exact HK.out | apply KeepBut.set_ | apply keep_drewN | apply keep_drew | apply keep_alloc) | exact HK.out)⟩
      · replace c11 := Bool.eq_false_iff.mpr c11
        subst c11
        have H1 : (spec_l17Ok.l0 kj1 (s0_1.length : Int) 0 s0_0 s0_1 s0_2) = some (r1, r2) := by rw [if_neg (show ¬ (false = true) by decide)] at H; exact H
        clear H
        have H := H1
        clear H1
        have H' := Aside0.mk H
        clear H
        go_wp2
        go_loopg [4] kj1 (fun kq v4 w' => ∃ (x4_2 : Int), v4 = .int .i64 x4_2 ∧ Aside0 (spec_l17Ok.l0 kq (s0_1.length : Int) x4_2 s0_0 s0_1 s0_2 = some (r1, r2)) ∧ Aside0 (kq ≤ kj1) ∧ Aside0 (IsS26 w0 w' g s0_0 s0_1 s0_2) ∧ Aside0 (KeepBut w w' g none) ∧ Aside0 (Below w0.heap.size w0 w'))
        case atStart => exact ⟨(0), (by first | rfl | (simp; done) | (simp [*]; done)), H', ⟨Nat.le_refl _⟩, ⟨by repeat (first | (with_reducible first | exact HI0.out | apply IsS26.alloc | apply IsS26.drewN | apply IsS26.drew | apply IsS26.set_0) | exact HI0.out)⟩, ⟨by repeat (first | (with_reducible first | exact HK.out | apply KeepBut.set_ | apply keep_drewN | apply keep_drew | apply keep_alloc) | exact HK.out)⟩, ⟨by repeat (first | (with_reducible first | exact HB.out | apply below_alloc | apply pw_below_drewN | apply below_drew1 | refine below_set ?_ (IsS26.ge HI0.out)) | exact HB.out)⟩⟩
        case round =>
          clear H'
          try clear c1
          try clear c2
          try clear p2
          try clear c5
          try clear c7
          try clear c11
          try clear hcz10_0
          try clear hcz10_1
          try clear hcz10_2
          try clear hcz3_0
          try clear hcz3_1
          try clear hcz3_2
          try clear hcz8_0
          try clear hcz8_1
          try clear hcz8_2
          try clear hcz9_0
          try clear hcz9_1
          try clear hcz9_2
          try clear hfz10_0
          try clear hfz3_0
          try clear hfz8_0
          try clear hfz9_0
          try clear p2
          obtain ⟨x4_2, rfl, HA, HK2, HI0, HK, HB⟩ := hrel
          cases gk with
          | zero => exact absurd HA.out (by simp [spec_l17Ok.l0])
          | succ k2 =>
            have H := HA.out
            clear HA
            simp only [spec_l17Ok.l0] at H
            by_cases c12 : x4_2 < (s0_1.length : Int)
            · rw [if_pos c12] at H
              have c12b0 : decide (x4_2 < (s0_1.length : Int)) = true := decide_eq_true c12
              clear c12
              by_cases c13 : 0 ≤ x4_2
              · rw [if_pos c13] at H
                have c13b0 : decide (0 ≤ x4_2) = true := decide_eq_true c13
                clear c13
                by_cases c14 : x4_2 < (s0_1.length : Int)
                · rw [if_pos c14] at H
                  have c14b0 : decide (x4_2 < (s0_1.length : Int)) = true := decide_eq_true c14
                  clear c14
                  replace H := Option.bind_eq_some_iff.mp H
                  obtain ⟨t121, A150, H⟩ := H
                  replace H : (if t121 = true then (if x4_2 = 0 then (if x4_2 < (s0_2.length : Int) then (if (rd s0_2 x4_2) = 1 then (if x4_2 > 0 then ((spec_l00In.f (rd s0_2 x4_2) 2 3).bind fun t124 => (if t124 = true then (spec_l17Ok.l0 k2 (s0_1.length : Int) (wrap64 (x4_2 + 1)) s0_0 s0_1 s0_2) else (some (false, s0_0)))) else (spec_l17Ok.l0 k2 (s0_1.length : Int) (wrap64 (x4_2 + 1)) s0_0 s0_1 s0_2)) else (some (false, s0_0))) else (none)) else (if x4_2 > 0 then (if x4_2 < (s0_2.length : Int) then ((spec_l00In.f (rd s0_2 x4_2) 2 3).bind fun t126 => (if t126 = true then (spec_l17Ok.l0 k2 (s0_1.length : Int) (wrap64 (x4_2 + 1)) s0_0 s0_1 s0_2) else (some (false, s0_0)))) else (none)) else (spec_l17Ok.l0 k2 (s0_1.length : Int) (wrap64 (x4_2 + 1)) s0_0 s0_1 s0_2))) else (some (false, s0_0))) = some (r1, r2) := H
                  have A15 := Aside0.mk A150
                  clear A150
                  by_cases c16 : t121 = true
                  · subst c16
                    have H1 : (if x4_2 = 0 then (if x4_2 < (s0_2.length : Int) then (if (rd s0_2 x4_2) = 1 then (if x4_2 > 0 then ((spec_l00In.f (rd s0_2 x4_2) 2 3).bind fun t124 => (if t124 = true then (spec_l17Ok.l0 k2 (s0_1.length : Int) (wrap64 (x4_2 + 1)) s0_0 s0_1 s0_2) else (some (false, s0_0)))) else (spec_l17Ok.l0 k2 (s0_1.length : Int) (wrap64 (x4_2 + 1)) s0_0 s0_1 s0_2)) else (some (false, s0_0))) else (none)) else (if x4_2 > 0 then (if x4_2 < (s0_2.length : Int) then ((spec_l00In.f (rd s0_2 x4_2) 2 3).bind fun t126 => (if t126 = true then (spec_l17Ok.l0 k2 (s0_1.length : Int) (wrap64 (x4_2 + 1)) s0_0 s0_1 s0_2) else (some (false, s0_0)))) else (none)) else (spec_l17Ok.l0 k2 (s0_1.length : Int) (wrap64 (x4_2 + 1)) s0_0 s0_1 s0_2))) = some (r1, r2) := by rw [if_pos rfl] at H; exact H
                    clear H
                    have H := H1
                    clear H1
                    by_cases c17 : x4_2 = 0
                    · rw [if_pos c17] at H
                      have c17b0 : (x4_2 == 0) = true := beq_iff_eq.mpr c17
                      have c17b1 : (x4_2 != 0) = false := bne_eq_false_iff_eq.mpr c17
                      clear c17
                      by_cases c18 : x4_2 < (s0_2.length : Int)
                      · rw [if_pos c18] at H
                        have c18b0 : decide (x4_2 < (s0_2.length : Int)) = true := decide_eq_true c18
                        clear c18
                        by_cases c19 : (rd s0_2 x4_2) = 1
                        · rw [if_pos c19] at H
                          have c19b0 : ((rd s0_2 x4_2) == 1) = true := beq_iff_eq.mpr c19
                          have c19b1 : ((rd s0_2 x4_2) != 1) = false := bne_eq_false_iff_eq.mpr c19
                          clear c19
                          by_cases c20 : x4_2 > 0
                          · rw [if_pos c20] at H
                            have c20b0 : decide (0 < x4_2) = true := decide_eq_true c20
                            clear c20
                            replace H := Option.bind_eq_some_iff.mp H
                            obtain ⟨t124, A210, H⟩ := H
                            replace H : (if t124 = true then (spec_l17Ok.l0 k2 (s0_1.length : Int) (wrap64 (x4_2 + 1)) s0_0 s0_1 s0_2) else (some (false, s0_0))) = some (r1, r2) := H
                            have A21 := Aside0.mk A210
                            (try have EA21_A15 : t124 = t121 := Option.some.inj (A21.out.symm.trans A15.out))
                            clear A210
                            by_cases c22 : t124 = true
                            · subst c22
                              have H1 : (spec_l17Ok.l0 k2 (s0_1.length : Int) (wrap64 (x4_2 + 1)) s0_0 s0_1 s0_2) = some (r1, r2) := by rw [if_pos rfl] at H; exact H
                              clear H
                              have H := H1
                              clear H1
                              have H' := Aside0.mk H
                              clear H
                              obtain ⟨ASz23_1, cSz23_1, ASz23_2, cSz23_2, HGz23, hgz23, HSz23_1, HSz23_2⟩ := HI0.out
                              have hcz23_0 := cellS26_0 HGz23
                              have hcz23_1 := cellS26_1 HGz23
                              have hcz23_2 := cellS26_2 HGz23
                              have hfz23_0 := blk_frozen HGz23 0
                              clear HGz23 hgz23
                              have p120 : 0 ≤ (x4_2 : Int) := of_decide_eq_true (by first | (with_reducible assumption) | assumption)
                              have q120 : x4_2 < (s0_1.length : Int) := of_decide_eq_true (by first | (with_reducible assumption) | assumption)
                              obtain ⟨ad120, e120, hx120_0⟩ := Kd.at_int HSz23_1.1 x4_2 p120 q120
                              cases e120
                              replace hx120_0 := pw_cell_below HB.out hx120_0
                              replace p120 := eq_true p120
                              replace q120 := eq_true q120
                              go_wp2_with (first | ((with_reducible refine gate_callee (f := 60) rfl ?_); refine goesL_ (some 42) rfl rfl Try.func60 (by kernel_rfl) rfl #[.int .i64 (rd s0_1 x4_2), .int .i64 1, .int .i64 16] rfl (by (try simp only [List.map_toArray, List.map_cons, List.map_nil]); first | done | rfl | (simp only [List.length_drop, List.length_take]; rfl)) ?_; (with_reducible refine (spec_l00In.calls (rd s0_1 x4_2) 1 16 true _ A15.out).mono ?_); rintro e w' ⟨rfl, ⟨nd, rfl⟩⟩; refine ⟨_, rfl, ?_⟩; have p122 : 0 ≤ (x4_2 : Int) := of_decide_eq_true (by first | (with_reducible assumption) | assumption); have q122 : x4_2 < (s0_2.length : Int) := of_decide_eq_true (by first | (with_reducible assumption) | assumption); obtain ⟨ad122, e122, hx122_0⟩ := Kd.at_int HSz23_2.1 x4_2 p122 q122; cases e122; replace hx122_0 := pw_cell_below HB.out hx122_0; replace p122 := eq_true p122; replace q122 := eq_true q122; have p123 : 0 ≤ (x4_2 : Int) := of_decide_eq_true (by first | (with_reducible assumption) | assumption); have q123 : x4_2 < (s0_2.length : Int) := of_decide_eq_true (by first | (with_reducible assumption) | assumption); obtain ⟨ad123, e123, hx123_0⟩ := Kd.at_int HSz23_2.1 x4_2 p123 q123; obtain rfl : ad122 = ad123 := (by injection e123); replace hx123_0 := pw_cell_below HB.out hx123_0; replace p123 := eq_true p123; replace q123 := eq_true q123) | (go_at_call 60; (with_reducible refine (spec_l00In.calls (rd s0_2 x4_2) 2 3 true _ A21.out).mono ?_); rintro e w' ⟨rfl, ⟨nd, rfl⟩⟩))
                              go_roundg k2
                              case measure => have := HJ1.out; have := HK2.out; omega
                              case rel => exact ⟨(wrap64 (x4_2 + 1)), (by first | rfl | (simp; done) | (simp [*]; done)), H', ⟨by have := HJ1.out; have := HK2.out; omega⟩, ⟨by repeat (first | (with_reducible first | exact HI0.out | apply IsS26.alloc | apply IsS26.drewN | apply IsS26.drew | apply IsS26.set_0) | exact HI0.out)⟩, ⟨by repeat (first | (with_reducible first | exact HK.out | apply KeepBut.set_ | apply keep_drewN | apply keep_drew | apply keep_alloc) | exact HK.out)⟩, ⟨by repeat (first | (with_reducible first | exact HB.out | apply below_alloc | apply pw_below_drewN | apply below_drew1 | refine below_set ?_ (IsS26.ge HI0.out)) | exact HB.out)⟩⟩
                            · replace c22 := Bool.eq_false_iff.mpr c22
                              subst c22
                              have H1 : (some (false, s0_0)) = some (r1, r2) := by rw [if_neg (show ¬ (false = true) by decide)] at H; exact H
                              clear H
                              have H := H1
                              clear H1
                              simp only [Option.some.injEq, Prod.mk.injEq] at H
                              obtain ⟨rfl, rfl⟩ := H
                              obtain ⟨ASz24_1, cSz24_1, ASz24_2, cSz24_2, HGz24, hgz24, HSz24_1, HSz24_2⟩ := HI0.out
                              have hcz24_0 := cellS26_0 HGz24
                              have hcz24_1 := cellS26_1 HGz24
                              have hcz24_2 := cellS26_2 HGz24
                              have hfz24_0 := blk_frozen HGz24 0
                              clear HGz24 hgz24
                              have p120 : 0 ≤ (x4_2 : Int) := of_decide_eq_true (by first | (with_reducible assumption) | assumption)
                              have q120 : x4_2 < (s0_1.length : Int) := of_decide_eq_true (by first | (with_reducible assumption) | assumption)
                              obtain ⟨ad120, e120, hx120_0⟩ := Kd.at_int HSz24_1.1 x4_2 p120 q120
                              cases e120
                              replace hx120_0 := pw_cell_below HB.out hx120_0
                              replace p120 := eq_true p120
                              replace q120 := eq_true q120
                              go_wp2_with (first | ((with_reducible refine gate_callee (f := 60) rfl ?_); refine goesL_ (some 42) rfl rfl Try.func60 (by kernel_rfl) rfl #[.int .i64 (rd s0_1 x4_2), .int .i64 1, .int .i64 16] rfl (by (try simp only [List.map_toArray, List.map_cons, List.map_nil]); first | done | rfl | (simp only [List.length_drop, List.length_take]; rfl)) ?_; (with_reducible refine (spec_l00In.calls (rd s0_1 x4_2) 1 16 true _ A15.out).mono ?_); rintro e w' ⟨rfl, ⟨nd, rfl⟩⟩; refine ⟨_, rfl, ?_⟩; have p122 : 0 ≤ (x4_2 : Int) := of_decide_eq_true (by first | (with_reducible assumption) | assumption); have q122 : x4_2 < (s0_2.length : Int) := of_decide_eq_true (by first | (with_reducible assumption) | assumption); obtain ⟨ad122, e122, hx122_0⟩ := Kd.at_int HSz24_2.1 x4_2 p122 q122; cases e122; replace hx122_0 := pw_cell_below HB.out hx122_0; replace p122 := eq_true p122; replace q122 := eq_true q122; have p123 : 0 ≤ (x4_2 : Int) := of_decide_eq_true (by first | (with_reducible assumption) | assumption); have q123 : x4_2 < (s0_2.length : Int) := of_decide_eq_true (by first | (with_reducible assumption) | assumption); obtain ⟨ad123, e123, hx123_0⟩ := Kd.at_int HSz24_2.1 x4_2 p123 q123; obtain rfl : ad122 = ad123 := (by injection e123); replace hx123_0 := pw_cell_below HB.out hx123_0; replace p123 := eq_true p123; replace q123 := eq_true q123) | (go_at_call 60; (with_reducible refine (spec_l00In.calls (rd s0_2 x4_2) 2 3 false _ A21.out).mono ?_); rintro e w' ⟨rfl, ⟨nd, rfl⟩⟩))
                              go_ret
                              exact ⟨by first | rfl | (simp [errW_none, errW_some] <;> rfl) | (simp [*, errW_none, errW_some] <;> rfl), by repeat (first | (with_reducible first | exact HI0.out | apply IsS26.alloc | apply IsS26.drewN | apply IsS26.drew | apply IsS26.set_0) | exact HI0.out), by repeat (first | (with_reducible first | exact HB.out | apply below_alloc | apply pw_below_drewN | apply below_drew1 | refine below_set ?_ (IsS26.ge HI0.out)) | exact HB.out), by repeat (first | (with_reducible first | exact HK.out | apply KeepBut.set_ | apply keep_drewN | apply keep_drew | apply keep_alloc) | exact HK.out)⟩
                          · rw [if_neg c20] at H
                            have c20b0 : decide (0 < x4_2) = false := decide_eq_false c20
                            clear c20
                            have H' := Aside0.mk H
                            clear H
                            obtain ⟨ASz25_1, cSz25_1, ASz25_2, cSz25_2, HGz25, hgz25, HSz25_1, HSz25_2⟩ := HI0.out
                            have hcz25_0 := cellS26_0 HGz25
                            have hcz25_1 := cellS26_1 HGz25
                            have hcz25_2 := cellS26_2 HGz25
                            have hfz25_0 := blk_frozen HGz25 0
                            clear HGz25 hgz25
                            have p120 : 0 ≤ (x4_2 : Int) := of_decide_eq_true (by first | (with_reducible assumption) | assumption)
                            have q120 : x4_2 < (s0_1.length : Int) := of_decide_eq_true (by first | (with_reducible assumption) | assumption)
                            obtain ⟨ad120, e120, hx120_0⟩ := Kd.at_int HSz25_1.1 x4_2 p120 q120
                            cases e120
                            replace hx120_0 := pw_cell_below HB.out hx120_0
                            replace p120 := eq_true p120
                            replace q120 := eq_true q120
                            go_wp2_with (first | ((with_reducible refine gate_callee (f := 60) rfl ?_); refine goesL_ (some 42) rfl rfl Try.func60 (by kernel_rfl) rfl #[.int .i64 (rd s0_1 x4_2), .int .i64 1, .int .i64 16] rfl (by (try simp only [List.map_toArray, List.map_cons, List.map_nil]); first | done | rfl | (simp only [List.length_drop, List.length_take]; rfl)) ?_; (with_reducible refine (spec_l00In.calls (rd s0_1 x4_2) 1 16 true _ A15.out).mono ?_); rintro e w' ⟨rfl, ⟨nd, rfl⟩⟩; refine ⟨_, rfl, ?_⟩; have p122 : 0 ≤ (x4_2 : Int) := of_decide_eq_true (by first | (with_reducible assumption) | assumption); have q122 : x4_2 < (s0_2.length : Int) := of_decide_eq_true (by first | (with_reducible assumption) | assumption); obtain ⟨ad122, e122, hx122_0⟩ := Kd.at_int HSz25_2.1 x4_2 p122 q122; cases e122; replace hx122_0 := pw_cell_below HB.out hx122_0; replace p122 := eq_true p122; replace q122 := eq_true q122))
                            go_roundg k2
                            case measure => have := HJ1.out; have := HK2.out; omega
                            case rel => exact ⟨(wrap64 (x4_2 + 1)), (by first | rfl | (simp; done) | (simp [*]; done)), H', ⟨by have := HJ1.out; have := HK2.out; omega⟩, ⟨by repeat (first | (with_reducible first | exact HI0.out | apply IsS26.alloc | apply IsS26.drewN | apply IsS26.drew | apply IsS26.set_0) | exact HI0.out)⟩, ⟨by repeat (first | (with_reducible first | exact HK.out | apply KeepBut.set_ | apply keep_drewN | apply keep_drew | apply keep_alloc) | exact HK.out)⟩, ⟨by repeat (first | (with_reducible first | exact HB.out | apply below_alloc | apply pw_below_drewN | apply below_drew1 | refine below_set ?_ (IsS26.ge HI0.out)) | exact HB.out)⟩⟩
                        · rw [if_neg c19] at H
                          have c19b0 : ((rd s0_2 x4_2) == 1) = false := beq_eq_false_iff_ne.mpr c19
                          have c19b1 : ((rd s0_2 x4_2) != 1) = true := bne_iff_ne.mpr c19
                          simp only [Option.some.injEq, Prod.mk.injEq] at H
                          obtain ⟨rfl, rfl⟩ := H
                          obtain ⟨ASz26_1, cSz26_1, ASz26_2, cSz26_2, HGz26, hgz26, HSz26_1, HSz26_2⟩ := HI0.out
                          have hcz26_0 := cellS26_0 HGz26
                          have hcz26_1 := cellS26_1 HGz26
                          have hcz26_2 := cellS26_2 HGz26
                          have hfz26_0 := blk_frozen HGz26 0
                          clear HGz26 hgz26
                          have p120 : 0 ≤ (x4_2 : Int) := of_decide_eq_true (by first | (with_reducible assumption) | assumption)
                          have q120 : x4_2 < (s0_1.length : Int) := of_decide_eq_true (by first | (with_reducible assumption) | assumption)
                          obtain ⟨ad120, e120, hx120_0⟩ := Kd.at_int HSz26_1.1 x4_2 p120 q120
                          cases e120
                          replace hx120_0 := pw_cell_below HB.out hx120_0
                          replace p120 := eq_true p120
                          replace q120 := eq_true q120
                          go_wp2_with (first | ((with_reducible refine gate_callee (f := 60) rfl ?_); refine goesL_ (some 42) rfl rfl Try.func60 (by kernel_rfl) rfl #[.int .i64 (rd s0_1 x4_2), .int .i64 1, .int .i64 16] rfl (by (try simp only [List.map_toArray, List.map_cons, List.map_nil]); first | done | rfl | (simp only [List.length_drop, List.length_take]; rfl)) ?_; (with_reducible refine (spec_l00In.calls (rd s0_1 x4_2) 1 16 true _ A15.out).mono ?_); rintro e w' ⟨rfl, ⟨nd, rfl⟩⟩; refine ⟨_, rfl, ?_⟩; have p122 : 0 ≤ (x4_2 : Int) := of_decide_eq_true (by first | (with_reducible assumption) | assumption); have q122 : x4_2 < (s0_2.length : Int) := of_decide_eq_true (by first | (with_reducible assumption) | assumption); obtain ⟨ad122, e122, hx122_0⟩ := Kd.at_int HSz26_2.1 x4_2 p122 q122; cases e122; replace hx122_0 := pw_cell_below HB.out hx122_0; replace p122 := eq_true p122; replace q122 := eq_true q122))
                          go_ret
                          exact ⟨by first | rfl | (simp [errW_none, errW_some] <;> rfl) | (simp [*, errW_none, errW_some] <;> rfl), by repeat (first | (with_reducible first | exact HI0.out | apply IsS26.alloc | apply IsS26.drewN | apply IsS26.drew | apply IsS26.set_0) | exact HI0.out), by repeat (first | (with_reducible first | exact HB.out | apply below_alloc | apply pw_below_drewN | apply below_drew1 | refine below_set ?_ (IsS26.ge HI0.out)) | exact HB.out), by repeat (first | (with_reducible first | exact HK.out | apply KeepBut.set_ | apply keep_drewN | apply keep_drew | apply keep_alloc) | exact HK.out)⟩
                      · rw [if_neg c18] at H
                        exact absurd H (by simp)
                    · rw [if_neg c17] at H
                      have c17b0 : (x4_2 == 0) = false := beq_eq_false_iff_ne.mpr c17
                      have c17b1 : (x4_2 != 0) = true := bne_iff_ne.mpr c17
                      by_cases c27 : x4_2 > 0
                      · rw [if_pos c27] at H
                        have c27b0 : decide (0 < x4_2) = true := decide_eq_true c27
                        clear c27
                        by_cases c28 : x4_2 < (s0_2.length : Int)
                        · rw [if_pos c28] at H
                          have c28b0 : decide (x4_2 < (s0_2.length : Int)) = true := decide_eq_true c28
                          clear c28
                          replace H := Option.bind_eq_some_iff.mp H
                          obtain ⟨t126, A290, H⟩ := H
                          replace H : (if t126 = true then (spec_l17Ok.l0 k2 (s0_1.length : Int) (wrap64 (x4_2 + 1)) s0_0 s0_1 s0_2) else (some (false, s0_0))) = some (r1, r2) := H
                          have A29 := Aside0.mk A290
                          (try have EA29_A15 : t126 = t121 := Option.some.inj (A29.out.symm.trans A15.out))
                          clear A290
                          by_cases c30 : t126 = true
                          · subst c30
                            have H1 : (spec_l17Ok.l0 k2 (s0_1.length : Int) (wrap64 (x4_2 + 1)) s0_0 s0_1 s0_2) = some (r1, r2) := by rw [if_pos rfl] at H; exact H
                            clear H
                            have H := H1
                            clear H1
                            have H' := Aside0.mk H
                            clear H
                            obtain ⟨ASz31_1, cSz31_1, ASz31_2, cSz31_2, HGz31, hgz31, HSz31_1, HSz31_2⟩ := HI0.out
                            have hcz31_0 := cellS26_0 HGz31
                            have hcz31_1 := cellS26_1 HGz31
                            have hcz31_2 := cellS26_2 HGz31
                            have hfz31_0 := blk_frozen HGz31 0
                            clear HGz31 hgz31
                            have p120 : 0 ≤ (x4_2 : Int) := of_decide_eq_true (by first | (with_reducible assumption) | assumption)
                            have q120 : x4_2 < (s0_1.length : Int) := of_decide_eq_true (by first | (with_reducible assumption) | assumption)
                            obtain ⟨ad120, e120, hx120_0⟩ := Kd.at_int HSz31_1.1 x4_2 p120 q120
                            cases e120
                            replace hx120_0 := pw_cell_below HB.out hx120_0
                            replace p120 := eq_true p120
                            replace q120 := eq_true q120
                            go_wp2_with (first | ((with_reducible refine gate_callee (f := 60) rfl ?_); refine goesL_ (some 42) rfl rfl Try.func60 (by kernel_rfl) rfl #[.int .i64 (rd s0_1 x4_2), .int .i64 1, .int .i64 16] rfl (by (try simp only [List.map_toArray, List.map_cons, List.map_nil]); first | done | rfl | (simp only [List.length_drop, List.length_take]; rfl)) ?_; (with_reducible refine (spec_l00In.calls (rd s0_1 x4_2) 1 16 true _ A15.out).mono ?_); rintro e w' ⟨rfl, ⟨nd, rfl⟩⟩; refine ⟨_, rfl, ?_⟩; have p125 : 0 ≤ (x4_2 : Int) := of_decide_eq_true (by first | (with_reducible assumption) | assumption); have q125 : x4_2 < (s0_2.length : Int) := of_decide_eq_true (by first | (with_reducible assumption) | assumption); obtain ⟨ad125, e125, hx125_0⟩ := Kd.at_int HSz31_2.1 x4_2 p125 q125; cases e125; replace hx125_0 := pw_cell_below HB.out hx125_0; replace p125 := eq_true p125; replace q125 := eq_true q125) | (go_at_call 60; (with_reducible refine (spec_l00In.calls (rd s0_2 x4_2) 2 3 true _ A29.out).mono ?_); rintro e w' ⟨rfl, ⟨nd, rfl⟩⟩))
                            go_roundg k2
                            case measure => have := HJ1.out; have := HK2.out; omega
                            case rel => exact ⟨(wrap64 (x4_2 + 1)), (by first | rfl | (simp; done) | (simp [*]; done)), H', ⟨by have := HJ1.out; have := HK2.out; omega⟩, ⟨by repeat (first | (with_reducible first | exact HI0.out | apply IsS26.alloc | apply IsS26.drewN | apply IsS26.drew | apply IsS26.set_0) | exact HI0.out)⟩, ⟨by repeat (first | (with_reducible first | exact HK.out | apply KeepBut.set_ | apply keep_drewN | apply keep_drew | apply keep_alloc) | exact HK.out)⟩, ⟨by repeat (first | (with_reducible first | exact HB.out | apply below_alloc | apply pw_below_drewN | apply below_drew1 | refine below_set ?_ (IsS26.ge HI0.out)) | exact HB.out)⟩⟩
                          · replace c30 := Bool.eq_false_iff.mpr c30
                            subst c30
                            have H1 : (some (false, s0_0)) = some (r1, r2) := by rw [if_neg (show ¬ (false = true) by decide)] at H; exact H
                            clear H
                            have H := H1
                            clear H1
                            simp only [Option.some.injEq, Prod.mk.injEq] at H
                            obtain ⟨rfl, rfl⟩ := H
                            obtain ⟨ASz32_1, cSz32_1, ASz32_2, cSz32_2, HGz32, hgz32, HSz32_1, HSz32_2⟩ := HI0.out
                            have hcz32_0 := cellS26_0 HGz32
                            have hcz32_1 := cellS26_1 HGz32
                            have hcz32_2 := cellS26_2 HGz32
                            have hfz32_0 := blk_frozen HGz32 0
                            clear HGz32 hgz32
                            have p120 : 0 ≤ (x4_2 : Int) := of_decide_eq_true (by first | (with_reducible assumption) | assumption)
                            have q120 : x4_2 < (s0_1.length : Int) := of_decide_eq_true (by first | (with_reducible assumption) | assumption)
                            obtain ⟨ad120, e120, hx120_0⟩ := Kd.at_int HSz32_1.1 x4_2 p120 q120
                            cases e120
                            replace hx120_0 := pw_cell_below HB.out hx120_0
                            replace p120 := eq_true p120
                            replace q120 := eq_true q120
                            go_wp2_with (first | ((with_reducible refine gate_callee (f := 60) rfl ?_); refine goesL_ (some 42) rfl rfl Try.func60 (by kernel_rfl) rfl #[.int .i64 (rd s0_1 x4_2), .int .i64 1, .int .i64 16] rfl (by (try simp only [List.map_toArray, List.map_cons, List.map_nil]); first | done | rfl | (simp only [List.length_drop, List.length_take]; rfl)) ?_; (with_reducible refine (spec_l00In.calls (rd s0_1 x4_2) 1 16 true _ A15.out).mono ?_); rintro e w' ⟨rfl, ⟨nd, rfl⟩⟩; refine ⟨_, rfl, ?_⟩; have p125 : 0 ≤ (x4_2 : Int) := of_decide_eq_true (by first | (with_reducible assumption) | assumption); have q125 : x4_2 < (s0_2.length : Int) := of_decide_eq_true (by first | (with_reducible assumption) | assumption); obtain ⟨ad125, e125, hx125_0⟩ := Kd.at_int HSz32_2.1 x4_2 p125 q125; cases e125; replace hx125_0 := pw_cell_below HB.out hx125_0; replace p125 := eq_true p125; replace q125 := eq_true q125) | (go_at_call 60; (with_reducible refine (spec_l00In.calls (rd s0_2 x4_2) 2 3 false _ A29.out).mono ?_); rintro e w' ⟨rfl, ⟨nd, rfl⟩⟩))
                            go_ret
                            exact ⟨by first | rfl | (simp [errW_none, errW_some] <;> rfl) | (simp [*, errW_none, errW_some] <;> rfl), by repeat (first | (with_reducible first | exact HI0.out | apply IsS26.alloc | apply IsS26.drewN | apply IsS26.drew | apply IsS26.set_0) | exact HI0.out), by repeat (first | (with_reducible first | exact HB.out | apply below_alloc | apply pw_below_drewN | apply below_drew1 | refine below_set ?_ (IsS26.ge HI0.out)) | exact HB.out), by repeat (first | (with_reducible first | exact HK.out | apply KeepBut.set_ | apply keep_drewN | apply keep_drew | apply keep_alloc) | exact HK.out)⟩
                        · rw [if_neg c28] at H
                          exact absurd H (by simp)
                      · rw [if_neg c27] at H
                        have c27b0 : decide (0 < x4_2) = false := decide_eq_false c27
                        clear c27
                        have H' := Aside0.mk H
                        clear H
                        obtain ⟨ASz33_1, cSz33_1, ASz33_2, cSz33_2, HGz33, hgz33, HSz33_1, HSz33_2⟩ := HI0.out
                        have hcz33_0 := cellS26_0 HGz33
                        have hcz33_1 := cellS26_1 HGz33
                        have hcz33_2 := cellS26_2 HGz33
                        have hfz33_0 := blk_frozen HGz33 0
                        clear HGz33 hgz33
                        have p120 : 0 ≤ (x4_2 : Int) := of_decide_eq_true (by first | (with_reducible assumption) | assumption)
                        have q120 : x4_2 < (s0_1.length : Int) := of_decide_eq_true (by first | (with_reducible assumption) | assumption)
                        obtain ⟨ad120, e120, hx120_0⟩ := Kd.at_int HSz33_1.1 x4_2 p120 q120
                        cases e120
                        replace hx120_0 := pw_cell_below HB.out hx120_0
                        replace p120 := eq_true p120
                        replace q120 := eq_true q120
                        go_wp2_with (first | ((with_reducible refine gate_callee (f := 60) rfl ?_); refine goesL_ (some 42) rfl rfl Try.func60 (by kernel_rfl) rfl #[.int .i64 (rd s0_1 x4_2), .int .i64 1, .int .i64 16] rfl (by (try simp only [List.map_toArray, List.map_cons, List.map_nil]); first | done | rfl | (simp only [List.length_drop, List.length_take]; rfl)) ?_; (with_reducible refine (spec_l00In.calls (rd s0_1 x4_2) 1 16 true _ A15.out).mono ?_); rintro e w' ⟨rfl, ⟨nd, rfl⟩⟩; refine ⟨_, rfl, ?_⟩))
                        go_roundg k2
                        case measure => have := HJ1.out; have := HK2.out; omega
                        case rel => exact ⟨(wrap64 (x4_2 + 1)), (by first | rfl | (simp; done) | (simp [*]; done)), H', ⟨by have := HJ1.out; have := HK2.out; omega⟩, ⟨by repeat (first | (with_reducible first | exact HI0.out | apply IsS26.alloc | apply IsS26.drewN | apply IsS26.drew | apply IsS26.set_0) | exact HI0.out)⟩, ⟨by repeat (first | (with_reducible first | exact HK.out | apply KeepBut.set_ | apply keep_drewN | apply keep_drew | apply keep_alloc) | exact HK.out)⟩, ⟨by repeat (first | (with_reducible first | exact HB.out | apply below_alloc | apply pw_below_drewN | apply below_drew1 | refine below_set ?_ (IsS26.ge HI0.out)) | exact HB.out)⟩⟩
                  · replace c16 := Bool.eq_false_iff.mpr c16
                    subst c16
                    have H1 : (some (false, s0_0)) = some (r1, r2) := by rw [if_neg (show ¬ (false = true) by decide)] at H; exact H
                    clear H
                    have H := H1
                    clear H1
                    simp only [Option.some.injEq, Prod.mk.injEq] at H
                    obtain ⟨rfl, rfl⟩ := H
                    obtain ⟨ASz34_1, cSz34_1, ASz34_2, cSz34_2, HGz34, hgz34, HSz34_1, HSz34_2⟩ := HI0.out
                    have hcz34_0 := cellS26_0 HGz34
                    have hcz34_1 := cellS26_1 HGz34
                    have hcz34_2 := cellS26_2 HGz34
                    have hfz34_0 := blk_frozen HGz34 0
                    clear HGz34 hgz34
                    have p120 : 0 ≤ (x4_2 : Int) := of_decide_eq_true (by first | (with_reducible assumption) | assumption)
                    have q120 : x4_2 < (s0_1.length : Int) := of_decide_eq_true (by first | (with_reducible assumption) | assumption)
                    obtain ⟨ad120, e120, hx120_0⟩ := Kd.at_int HSz34_1.1 x4_2 p120 q120
                    cases e120
                    replace hx120_0 := pw_cell_below HB.out hx120_0
                    replace p120 := eq_true p120
                    replace q120 := eq_true q120
                    go_wp2_with (first | ((with_reducible refine gate_callee (f := 60) rfl ?_); refine goesL_ (some 42) rfl rfl Try.func60 (by kernel_rfl) rfl #[.int .i64 (rd s0_1 x4_2), .int .i64 1, .int .i64 16] rfl (by (try simp only [List.map_toArray, List.map_cons, List.map_nil]); first | done | rfl | (simp only [List.length_drop, List.length_take]; rfl)) ?_; (with_reducible refine (spec_l00In.calls (rd s0_1 x4_2) 1 16 false _ A15.out).mono ?_); rintro e w' ⟨rfl, ⟨nd, rfl⟩⟩; refine ⟨_, rfl, ?_⟩))
                    go_ret
                    exact ⟨by first | rfl | (simp [errW_none, errW_some] <;> rfl) | (simp [*, errW_none, errW_some] <;> rfl), by repeat (first | (with_reducible first | exact HI0.out | apply IsS26.alloc | apply IsS26.drewN | apply IsS26.drew | apply IsS26.set_0) | exact HI0.out), by repeat (first | (with_reducible first | exact HB.out | apply below_alloc | apply pw_below_drewN | apply below_drew1 | refine below_set ?_ (IsS26.ge HI0.out)) | exact HB.out), by repeat (first | (with_reducible first | exact HK.out | apply KeepBut.set_ | apply keep_drewN | apply keep_drew | apply keep_alloc) | exact HK.out)⟩
                · rw [if_neg c14] at H
                  exact absurd H (by simp)
              · rw [if_neg c13] at H
                exact absurd H (by simp)
            · rw [if_neg c12] at H
              have c12b0 : decide (x4_2 < (s0_1.length : Int)) = false := decide_eq_false c12
              clear c12
              replace H := Option.bind_eq_some_iff.mp H
              obtain ⟨t119, A350, H⟩ := H
              replace H : (some (decide (t119 ≤ 32), s0_0)) = some (r1, r2) := H
              have A35 := Aside0.mk A350
              clear A350
              simp only [Option.some.injEq, Prod.mk.injEq] at H
              obtain ⟨rfl, rfl⟩ := H
              obtain ⟨ASz36_1, cSz36_1, ASz36_2, cSz36_2, HGz36, hgz36, HSz36_1, HSz36_2⟩ := HI0.out
              have hcz36_0 := cellS26_0 HGz36
              have hcz36_1 := cellS26_1 HGz36
              have hcz36_2 := cellS26_2 HGz36
              have hfz36_0 := blk_frozen HGz36 0
              clear HGz36 hgz36
              go_wp2_with (first | ((with_reducible refine gate_callee (f := 61) rfl ?_); refine goesL_ (some 75) rfl rfl Try.func61 (by kernel_rfl) rfl #[.slice ASz36_1 s0_1.length cSz36_1] rfl (by (try simp only [List.map_toArray, List.map_cons, List.map_nil]); first | done | rfl | (simp only [List.length_drop, List.length_take]; rfl)) ?_; (with_reducible refine (spec_l17Sum.calls k2 _ _ s0_1 t119 _ ?side1 ?side2 A35.out).mono ?_); (case side1 => exact Kd.C_below HSz36_1.1 (by repeat (first | (with_reducible first | exact HB.out | apply below_alloc | apply pw_below_drewN | apply below_drew1 | refine below_set ?_ (IsS26.ge HI0.out)) | exact HB.out))); (case side2 => exact HSz36_1.2); rintro e w' ⟨rfl, ⟨nd, rfl⟩⟩; refine ⟨_, rfl, ?_⟩))
              go_ret
              exact ⟨by first | rfl | (simp [errW_none, errW_some] <;> rfl) | (simp [*, errW_none, errW_some] <;> rfl), by repeat (first | (with_reducible first | exact HI0.out | apply IsS26.alloc | apply IsS26.drewN | apply IsS26.drew | apply IsS26.set_0) | exact HI0.out), by repeat (first | (with_reducible first | exact HB.out | apply below_alloc | apply pw_below_drewN | apply below_drew1 | refine below_set ?_ (IsS26.ge HI0.out)) | exact HB.out), by repeat (first | (with_reducible first | exact HK.out | apply KeepBut.set_ | apply keep_drewN | apply keep_drew | apply keep_alloc) | exact HK.out)⟩
/-! ### spec_l17Ok where its struct's rows are newer than it -/
def IsN26 (w0 W : World) (g : Nat) (f0 : ByteArray) (f1 : List Int) (f2 : List Int) : Prop := ∃ A1 c1, ∃ A2 c2, W.heap[g]? = some (.cells #[.string f0, .slice A1 f1.length c1, .slice A2 f2.length c2] 26 (0, 0)) ∧ True ∧ (Kd.C (Kd.int .i64) w0 A1 f1.length f1 ∧ f1.length ≤ c1) ∧ (Kd.C (Kd.int .i64) w0 A2 f2.length f2 ∧ f2.length ≤ c2)
theorem IsN26.drewN {w0 W : World} {g : Nat} {f0 : ByteArray} {f1 : List Int} {f2 : List Int} (h : IsN26 w0 W g f0 f1 f2) (m : Nat) : IsN26 w0 (W.drewN m) g f0 f1 f2 := h
theorem IsN26.drew {w0 W : World} {g : Nat} {f0 : ByteArray} {f1 : List Int} {f2 : List Int} (h : IsN26 w0 W g f0 f1 f2) : IsN26 w0 W.drew g f0 f1 f2 := h
theorem IsN26.alloc {w0 W : World} {g : Nat} {f0 : ByteArray} {f1 : List Int} {f2 : List Int} (h : IsN26 w0 W g f0 f1 f2) (o : Obj) : IsN26 w0 (W.alloc o) g f0 f1 f2 := by
  obtain ⟨A0, c0, A1, c1, hb, hr⟩ := h
  exact ⟨A0, c0, A1, c1, blk_alloc hb o, hr⟩
set_option maxHeartbeats 8000000 in
set_option maxRecDepth 100000 in
theorem spec_l17Ok_at.callsI (k : Nat) (g : Nat) (s0_0 : ByteArray) (s0_1 : List Int) (s0_2 : List Int) (r1 : Bool) (r2 : ByteArray) (w0 w : World) (hI : IsN26 w0 w g s0_0 s0_1 s0_2) (hB : Below w0.heap.size w0 w) (h : spec_l17Ok.f k s0_0 s0_1 s0_2 = some (r1, r2)) :
    Calls Try.prog 29 #[.pointer (some ⟨g, 0, none⟩)] w fun e w' => e = .returned (.bool r1) ∧ IsN26 w0 w' g r2 s0_1 s0_2 ∧ Below w0.heap.size w0 w' ∧ KeepBut w w' g none := by
  have HI0 := Aside0.mk hI
  have HK := Aside0.mk (KeepBut.refl w g none)
  have HL := Aside0.mk hB.size
  clear hI
  have HW0 := Aside0.mk hB.size
  have HB := Aside0.mk hB
  clear hB
  have H : ((spec_l01Name.f k s0_0).bind fun t117 => (if t117 = true then ((spec_l00In.f (s0_1.length : Int) 1 8).bind fun t118 => (if t118 = true then (spec_l17Ok.j0 k (s0_1.length : Int) ((s0_2.length : Int) != (s0_1.length : Int)) s0_0 s0_1 s0_2) else (spec_l17Ok.j0 k (s0_1.length : Int) true s0_0 s0_1 s0_2))) else (spec_l17Ok.j0 k (s0_1.length : Int) true s0_0 s0_1 s0_2))) = some (r1, r2) := h
  clear h
  have HC2 := Aside0.mk H
  clear H
  obtain ⟨ASz3_1, cSz3_1, ASz3_2, cSz3_2, HGz3, hgz3, HSz3_1, HSz3_2⟩ := HI0.out
  have hcz3_0 := cellS26_0 HGz3
  have hcz3_1 := cellS26_1 HGz3
  have hcz3_2 := cellS26_2 HGz3
  have hfz3_0 := blk_frozen HGz3 0
  clear HGz3 hgz3
  go_enter Try.func29, Try.ntmps29
  go_upto_region 2 with (fail)
  go_cut [29] (fun v29 wc => ∃ (kq : Nat) (x29_1 : Bool), v29 = .bool x29_1 ∧ Aside0 (spec_l17Ok.j0 kq (s0_1.length : Int) x29_1 s0_0 s0_1 s0_2 = some (r1, r2)) ∧ Aside0 (kq ≤ k) ∧ Aside0 (IsN26 w0 wc g s0_0 s0_1 s0_2) ∧ Aside0 (KeepBut w wc g none) ∧ Aside0 (Below w0.heap.size w0 wc))
  case first =>
    have H := HC2.out
    clear HC2
    replace H := Option.bind_eq_some_iff.mp H
    obtain ⟨t117, A40, H⟩ := H
    replace H : (if t117 = true then ((spec_l00In.f (s0_1.length : Int) 1 8).bind fun t118 => (if t118 = true then (spec_l17Ok.j0 k (s0_1.length : Int) ((s0_2.length : Int) != (s0_1.length : Int)) s0_0 s0_1 s0_2) else (spec_l17Ok.j0 k (s0_1.length : Int) true s0_0 s0_1 s0_2))) else (spec_l17Ok.j0 k (s0_1.length : Int) true s0_0 s0_1 s0_2)) = some (r1, r2) := H
    have A4 := Aside0.mk A40
    clear A40
    by_cases c5 : t117 = true
    · subst c5
      have H1 : ((spec_l00In.f (s0_1.length : Int) 1 8).bind fun t118 => (if t118 = true then (spec_l17Ok.j0 k (s0_1.length : Int) ((s0_2.length : Int) != (s0_1.length : Int)) s0_0 s0_1 s0_2) else (spec_l17Ok.j0 k (s0_1.length : Int) true s0_0 s0_1 s0_2))) = some (r1, r2) := by rw [if_pos rfl] at H; exact H
      clear H
      have H := H1
      clear H1
      replace H := Option.bind_eq_some_iff.mp H
      obtain ⟨t118, A60, H⟩ := H
      replace H : (if t118 = true then (spec_l17Ok.j0 k (s0_1.length : Int) ((s0_2.length : Int) != (s0_1.length : Int)) s0_0 s0_1 s0_2) else (spec_l17Ok.j0 k (s0_1.length : Int) true s0_0 s0_1 s0_2)) = some (r1, r2) := H
      have A6 := Aside0.mk A60
      (try have EA6_A4 : t118 = t117 := Option.some.inj (A6.out.symm.trans A4.out))
      clear A60
      by_cases c7 : t118 = true
      · subst c7
        have H1 : (spec_l17Ok.j0 k (s0_1.length : Int) ((s0_2.length : Int) != (s0_1.length : Int)) s0_0 s0_1 s0_2) = some (r1, r2) := by rw [if_pos rfl] at H; exact H
        clear H
        have H := H1
        clear H1
        have H' := Aside0.mk H
        clear H
        obtain ⟨ASz8_1, cSz8_1, ASz8_2, cSz8_2, HGz8, hgz8, HSz8_1, HSz8_2⟩ := HI0.out
        have hcz8_0 := cellS26_0 HGz8
        have hcz8_1 := cellS26_1 HGz8
        have hcz8_2 := cellS26_2 HGz8
        have hfz8_0 := blk_frozen HGz8 0
        clear HGz8 hgz8
        go_wp2_with (first | ((with_reducible refine gate_callee (f := 59) rfl ?_); refine goesL_ (some 14) rfl rfl Try.func59 (by kernel_rfl) rfl #[.string s0_0] rfl (by (try simp only [List.map_toArray, List.map_cons, List.map_nil]); first | done | rfl | (simp only [List.length_drop, List.length_take]; rfl)) ?_; (with_reducible refine (spec_l01Name.calls k s0_0 true _ A4.out).mono ?_); rintro e w' ⟨rfl, ⟨nd, rfl⟩⟩; refine ⟨_, rfl, ?_⟩) | (go_at_call 60; (with_reducible refine (spec_l00In.calls (s0_1.length : Int) 1 8 true _ A6.out).mono ?_); rintro e w' ⟨rfl, ⟨nd, rfl⟩⟩))
        go_meet
        case rel => exact ⟨_, (((s0_2.length : Int) != (s0_1.length : Int))), (by first | rfl | (simp; done) | (simp [*]; done)), H', ⟨by first | omega | exact Nat.le_refl _⟩, ⟨by repeat (first | (with_reducible first | exact HI0.out | apply IsN26.alloc | apply IsN26.drewN | apply IsN26.drew | apply IsN26.set_0) | exact HI0.out)⟩, ⟨by repeat (first | (with_reducible first | exact HK.out | apply KeepBut.set_ | apply keep_drewN | apply keep_drew | apply keep_alloc) | exact HK.out)⟩, ⟨by repeat (first | (with_reducible first | exact HB.out | apply below_alloc | apply pw_below_drewN | apply below_drew1 | refine below_set ?_ (IsN26.ge HI0.out)) | exact HB.out)⟩⟩
      · replace c7 := Bool.eq_false_iff.mpr c7
        subst c7
        have H1 : (spec_l17Ok.j0 k (s0_1.length : Int) true s0_0 s0_1 s0_2) = some (r1, r2) := by rw [if_neg (show ¬ (false = true) by decide)] at H; exact H
        clear H
        have H := H1
        clear H1
        have H' := Aside0.mk H
        clear H
        obtain ⟨ASz9_1, cSz9_1, ASz9_2, cSz9_2, HGz9, hgz9, HSz9_1, HSz9_2⟩ := HI0.out
        have hcz9_0 := cellS26_0 HGz9
        have hcz9_1 := cellS26_1 HGz9
        have hcz9_2 := cellS26_2 HGz9
        have hfz9_0 := blk_frozen HGz9 0
        clear HGz9 hgz9
        go_wp2_with (first | ((with_reducible refine gate_callee (f := 59) rfl ?_); refine goesL_ (some 14) rfl rfl Try.func59 (by kernel_rfl) rfl #[.string s0_0] rfl (by (try simp only [List.map_toArray, List.map_cons, List.map_nil]); first | done | rfl | (simp only [List.length_drop, List.length_take]; rfl)) ?_; (with_reducible refine (spec_l01Name.calls k s0_0 true _ A4.out).mono ?_); rintro e w' ⟨rfl, ⟨nd, rfl⟩⟩; refine ⟨_, rfl, ?_⟩) | (go_at_call 60; (with_reducible refine (spec_l00In.calls (s0_1.length : Int) 1 8 false _ A6.out).mono ?_); rintro e w' ⟨rfl, ⟨nd, rfl⟩⟩))
        go_meet
        case rel => exact ⟨_, (true), (by first | rfl | (simp; done) | (simp [*]; done)), H', ⟨by first | omega | exact Nat.le_refl _⟩, ⟨by repeat (first | (with_reducible first | exact HI0.out | apply IsN26.alloc | apply IsN26.drewN | apply IsN26.drew | apply IsN26.set_0) | exact HI0.out)⟩, ⟨by repeat (first | (with_reducible first | exact HK.out | apply KeepBut.set_ | apply keep_drewN | apply keep_drew | apply keep_alloc) | exact HK.out)⟩, ⟨by repeat (first | (with_reducible first | exact HB.out | apply below_alloc | apply pw_below_drewN | apply below_drew1 | refine below_set ?_ (IsN26.ge HI0.out)) | exact HB.out)⟩⟩
    · replace c5 := Bool.eq_false_iff.mpr c5
      subst c5
      have H1 : (spec_l17Ok.j0 k (s0_1.length : Int) true s0_0 s0_1 s0_2) = some (r1, r2) := by rw [if_neg (show ¬ (false = true) by decide)] at H; exact H
      clear H
      have H := H1
      clear H1
      have H' := Aside0.mk H
      clear H
      obtain ⟨ASz10_1, cSz10_1, ASz10_2, cSz10_2, HGz10, hgz10, HSz10_1, HSz10_2⟩ := HI0.out
      have hcz10_0 := cellS26_0 HGz10
      have hcz10_1 := cellS26_1 HGz10
      have hcz10_2 := cellS26_2 HGz10
      have hfz10_0 := blk_frozen HGz10 0
      clear HGz10 hgz10
      go_wp2_with (first | ((with_reducible refine gate_callee (f := 59) rfl ?_); refine goesL_ (some 14) rfl rfl Try.func59 (by kernel_rfl) rfl #[.string s0_0] rfl (by (try simp only [List.map_toArray, List.map_cons, List.map_nil]); first | done | rfl | (simp only [List.length_drop, List.length_take]; rfl)) ?_; (with_reducible refine (spec_l01Name.calls k s0_0 false _ A4.out).mono ?_); rintro e w' ⟨rfl, ⟨nd, rfl⟩⟩; refine ⟨_, rfl, ?_⟩))
      go_meet
      case rel => exact ⟨_, (true), (by first | rfl | (simp; done) | (simp [*]; done)), H', ⟨by first | omega | exact Nat.le_refl _⟩, ⟨by repeat (first | (with_reducible first | exact HI0.out | apply IsN26.alloc | apply IsN26.drewN | apply IsN26.drew | apply IsN26.set_0) | exact HI0.out)⟩, ⟨by repeat (first | (with_reducible first | exact HK.out | apply KeepBut.set_ | apply keep_drewN | apply keep_drew | apply keep_alloc) | exact HK.out)⟩, ⟨by repeat (first | (with_reducible first | exact HB.out | apply below_alloc | apply pw_below_drewN | apply below_drew1 | refine below_set ?_ (IsN26.ge HI0.out)) | exact HB.out)⟩⟩
  case rest =>
    clear HC2
    try clear c2
    try clear p2
    try clear c5
    try clear c7
    try clear hcz10_0
    try clear hcz10_1
    try clear hcz10_2
    try clear hcz3_0
    try clear hcz3_1
    try clear hcz3_2
    try clear hcz8_0
    try clear hcz8_1
    try clear hcz8_2
    try clear hcz9_0
    try clear hcz9_1
    try clear hcz9_2
    try clear hfz10_0
    try clear hfz3_0
    try clear hfz8_0
    try clear hfz9_0
    obtain ⟨kq, x29_1, rfl, HA, HJ1, HI0, HK, HB⟩ := hcut
    cases kq with
    | zero => exact absurd HA.out (by simp [spec_l17Ok.j0])
    | succ kj1 =>
      have H := HA.out
      clear HA
      simp only [spec_l17Ok.j0] at H
      by_cases c11 : x29_1 = true
      · subst c11
        have H1 : (some (false, s0_0)) = some (r1, r2) := by rw [if_pos rfl] at H; exact H
        clear H
        have H := H1
        clear H1
        simp only [Option.some.injEq, Prod.mk.injEq] at H
        obtain ⟨rfl, rfl⟩ := H
        go_wp2
        go_ret
        exact ⟨by first | rfl | (simp [errW_none, errW_some] <;> rfl) | (simp [*, errW_none, errW_some] <;> rfl), by repeat (first | (with_reducible first | exact HI0.out | apply IsN26.alloc | apply IsN26.drewN | apply IsN26.drew | apply IsN26.set_0) | exact HI0.out), by repeat (first | (with_reducible first | exact HB.out | apply below_alloc | apply pw_below_drewN | apply below_drew1 | refine below_set ?_ (IsN26.ge HI0.out)) | exact HB.out), by repeat (first | (with_reducible first | exact HK.out | apply KeepBut.set_ | apply keep_drewN | apply keep_drew | apply keep_alloc) | exact HK.out)⟩
      · replace c11 := Bool.eq_false_iff.mpr c11
        subst c11
        have H1 : (spec_l17Ok.l0 kj1 (s0_1.length : Int) 0 s0_0 s0_1 s0_2) = some (r1, r2) := by rw [if_neg (show ¬ (false = true) by decide)] at H; exact H
        clear H
        have H := H1
        clear H1
        have H' := Aside0.mk H
        clear H
        go_wp2
        go_loopg [4] kj1 (fun kq v4 w' => ∃ (x4_2 : Int), v4 = .int .i64 x4_2 ∧ Aside0 (spec_l17Ok.l0 kq (s0_1.length : Int) x4_2 s0_0 s0_1 s0_2 = some (r1, r2)) ∧ Aside0 (kq ≤ kj1) ∧ Aside0 (IsN26 w0 w' g s0_0 s0_1 s0_2) ∧ Aside0 (KeepBut w w' g none) ∧ Aside0 (Below w0.heap.size w0 w'))
        case atStart => exact ⟨(0), (by first | rfl | (simp; done) | (simp [*]; done)), H', ⟨Nat.le_refl _⟩, ⟨by repeat (first | (with_reducible first | exact HI0.out | apply IsN26.alloc | apply IsN26.drewN | apply IsN26.drew | apply IsN26.set_0) | exact HI0.out)⟩, ⟨by repeat (first | (with_reducible first | exact HK.out | apply KeepBut.set_ | apply keep_drewN | apply keep_drew | apply keep_alloc) | exact HK.out)⟩, ⟨by repeat (first | (with_reducible first | exact HB.out | apply below_alloc | apply pw_below_drewN | apply below_drew1 | refine below_set ?_ (IsN26.ge HI0.out)) | exact HB.out)⟩⟩
        case round =>
          clear H'
          try clear c1
          try clear c2
          try clear p2
          try clear c5
          try clear c7
          try clear c11
          try clear hcz10_0
          try clear hcz10_1
          try clear hcz10_2
          try clear hcz3_0
          try clear hcz3_1
          try clear hcz3_2
          try clear hcz8_0
          try clear hcz8_1
          try clear hcz8_2
          try clear hcz9_0
          try clear hcz9_1
          try clear hcz9_2
          try clear hfz10_0
          try clear hfz3_0
          try clear hfz8_0
          try clear hfz9_0
          try clear p2
          obtain ⟨x4_2, rfl, HA, HK2, HI0, HK, HB⟩ := hrel
          cases gk with
          | zero => exact absurd HA.out (by simp [spec_l17Ok.l0])
          | succ k2 =>
            have H := HA.out
            clear HA
            simp only [spec_l17Ok.l0] at H
            by_cases c12 : x4_2 < (s0_1.length : Int)
            · rw [if_pos c12] at H
              have c12b0 : decide (x4_2 < (s0_1.length : Int)) = true := decide_eq_true c12
              clear c12
              by_cases c13 : 0 ≤ x4_2
              · rw [if_pos c13] at H
                have c13b0 : decide (0 ≤ x4_2) = true := decide_eq_true c13
                clear c13
                by_cases c14 : x4_2 < (s0_1.length : Int)
                · rw [if_pos c14] at H
                  have c14b0 : decide (x4_2 < (s0_1.length : Int)) = true := decide_eq_true c14
                  clear c14
                  replace H := Option.bind_eq_some_iff.mp H
                  obtain ⟨t121, A150, H⟩ := H
                  replace H : (if t121 = true then (if x4_2 = 0 then (if x4_2 < (s0_2.length : Int) then (if (rd s0_2 x4_2) = 1 then (if x4_2 > 0 then ((spec_l00In.f (rd s0_2 x4_2) 2 3).bind fun t124 => (if t124 = true then (spec_l17Ok.l0 k2 (s0_1.length : Int) (wrap64 (x4_2 + 1)) s0_0 s0_1 s0_2) else (some (false, s0_0)))) else (spec_l17Ok.l0 k2 (s0_1.length : Int) (wrap64 (x4_2 + 1)) s0_0 s0_1 s0_2)) else (some (false, s0_0))) else (none)) else (if x4_2 > 0 then (if x4_2 < (s0_2.length : Int) then ((spec_l00In.f (rd s0_2 x4_2) 2 3).bind fun t126 => (if t126 = true then (spec_l17Ok.l0 k2 (s0_1.length : Int) (wrap64 (x4_2 + 1)) s0_0 s0_1 s0_2) else (some (false, s0_0)))) else (none)) else (spec_l17Ok.l0 k2 (s0_1.length : Int) (wrap64 (x4_2 + 1)) s0_0 s0_1 s0_2))) else (some (false, s0_0))) = some (r1, r2) := H
                  have A15 := Aside0.mk A150
                  clear A150
                  by_cases c16 : t121 = true
                  · subst c16
                    have H1 : (if x4_2 = 0 then (if x4_2 < (s0_2.length : Int) then (if (rd s0_2 x4_2) = 1 then (if x4_2 > 0 then ((spec_l00In.f (rd s0_2 x4_2) 2 3).bind fun t124 => (if t124 = true then (spec_l17Ok.l0 k2 (s0_1.length : Int) (wrap64 (x4_2 + 1)) s0_0 s0_1 s0_2) else (some (false, s0_0)))) else (spec_l17Ok.l0 k2 (s0_1.length : Int) (wrap64 (x4_2 + 1)) s0_0 s0_1 s0_2)) else (some (false, s0_0))) else (none)) else (if x4_2 > 0 then (if x4_2 < (s0_2.length : Int) then ((spec_l00In.f (rd s0_2 x4_2) 2 3).bind fun t126 => (if t126 = true then (spec_l17Ok.l0 k2 (s0_1.length : Int) (wrap64 (x4_2 + 1)) s0_0 s0_1 s0_2) else (some (false, s0_0)))) else (none)) else (spec_l17Ok.l0 k2 (s0_1.length : Int) (wrap64 (x4_2 + 1)) s0_0 s0_1 s0_2))) = some (r1, r2) := by rw [if_pos rfl] at H; exact H
                    clear H
                    have H := H1
                    clear H1
                    by_cases c17 : x4_2 = 0
                    · rw [if_pos c17] at H
                      have c17b0 : (x4_2 == 0) = true := beq_iff_eq.mpr c17
                      have c17b1 : (x4_2 != 0) = false := bne_eq_false_iff_eq.mpr c17
                      clear c17
                      by_cases c18 : x4_2 < (s0_2.length : Int)
                      · rw [if_pos c18] at H
                        have c18b0 : decide (x4_2 < (s0_2.length : Int)) = true := decide_eq_true c18
                        clear c18
                        by_cases c19 : (rd s0_2 x4_2) = 1
                        · rw [if_pos c19] at H
                          have c19b0 : ((rd s0_2 x4_2) == 1) = true := beq_iff_eq.mpr c19
                          have c19b1 : ((rd s0_2 x4_2) != 1) = false := bne_eq_false_iff_eq.mpr c19
                          clear c19
                          by_cases c20 : x4_2 > 0
                          · rw [if_pos c20] at H
                            have c20b0 : decide (0 < x4_2) = true := decide_eq_true c20
                            clear c20
                            replace H := Option.bind_eq_some_iff.mp H
                            obtain ⟨t124, A210, H⟩ := H
                            replace H : (if t124 = true then (spec_l17Ok.l0 k2 (s0_1.length : Int) (wrap64 (x4_2 + 1)) s0_0 s0_1 s0_2) else (some (false, s0_0))) = some (r1, r2) := H
                            have A21 := Aside0.mk A210
                            (try have EA21_A15 : t124 = t121 := Option.some.inj (A21.out.symm.trans A15.out))
                            clear A210
                            by_cases c22 : t124 = true
                            · subst c22
                              have H1 : (spec_l17Ok.l0 k2 (s0_1.length : Int) (wrap64 (x4_2 + 1)) s0_0 s0_1 s0_2) = some (r1, r2) := by rw [if_pos rfl] at H; exact H
                              clear H
                              have H := H1
                              clear H1
                              have H' := Aside0.mk H
                              clear H
                              obtain ⟨ASz23_1, cSz23_1, ASz23_2, cSz23_2, HGz23, hgz23, HSz23_1, HSz23_2⟩ := HI0.out
                              have hcz23_0 := cellS26_0 HGz23
                              have hcz23_1 := cellS26_1 HGz23
                              have hcz23_2 := cellS26_2 HGz23
                              have hfz23_0 := blk_frozen HGz23 0
                              clear HGz23 hgz23
                              have p120 : 0 ≤ (x4_2 : Int) := of_decide_eq_true (by first | (with_reducible assumption) | assumption)
                              have q120 : x4_2 < (s0_1.length : Int) := of_decide_eq_true (by first | (with_reducible assumption) | assumption)
                              obtain ⟨ad120, e120, hx120_0⟩ := Kd.at_int HSz23_1.1 x4_2 p120 q120
                              cases e120
                              replace hx120_0 := pw_cell_below HB.out hx120_0
                              replace p120 := eq_true p120
                              replace q120 := eq_true q120
                              go_wp2_with (first | ((with_reducible refine gate_callee (f := 60) rfl ?_); refine goesL_ (some 42) rfl rfl Try.func60 (by kernel_rfl) rfl #[.int .i64 (rd s0_1 x4_2), .int .i64 1, .int .i64 16] rfl (by (try simp only [List.map_toArray, List.map_cons, List.map_nil]); first | done | rfl | (simp only [List.length_drop, List.length_take]; rfl)) ?_; (with_reducible refine (spec_l00In.calls (rd s0_1 x4_2) 1 16 true _ A15.out).mono ?_); rintro e w' ⟨rfl, ⟨nd, rfl⟩⟩; refine ⟨_, rfl, ?_⟩; have p122 : 0 ≤ (x4_2 : Int) := of_decide_eq_true (by first | (with_reducible assumption) | assumption); have q122 : x4_2 < (s0_2.length : Int) := of_decide_eq_true (by first | (with_reducible assumption) | assumption); obtain ⟨ad122, e122, hx122_0⟩ := Kd.at_int HSz23_2.1 x4_2 p122 q122; cases e122; replace hx122_0 := pw_cell_below HB.out hx122_0; replace p122 := eq_true p122; replace q122 := eq_true q122; have p123 : 0 ≤ (x4_2 : Int) := of_decide_eq_true (by first | (with_reducible assumption) | assumption); have q123 : x4_2 < (s0_2.length : Int) := of_decide_eq_true (by first | (with_reducible assumption) | assumption); obtain ⟨ad123, e123, hx123_0⟩ := Kd.at_int HSz23_2.1 x4_2 p123 q123; obtain rfl : ad122 = ad123 := (by injection e123); replace hx123_0 := pw_cell_below HB.out hx123_0; replace p123 := eq_true p123; replace q123 := eq_true q123) | (go_at_call 60; (with_reducible refine (spec_l00In.calls (rd s0_2 x4_2) 2 3 true _ A21.out).mono ?_); rintro e w' ⟨rfl, ⟨nd, rfl⟩⟩))
                              go_roundg k2
                              case measure => have := HJ1.out; have := HK2.out; omega
                              case rel => exact ⟨(wrap64 (x4_2 + 1)), (by first | rfl | (simp; done) | (simp [*]; done)), H', ⟨by have := HJ1.out; have := HK2.out; omega⟩, ⟨by repeat (first | (with_reducible first | exact HI0.out | apply IsN26.alloc | apply IsN26.drewN | apply IsN26.drew | apply IsN26.set_0) | exact HI0.out)⟩, ⟨by repeat (first | (with_reducible first | exact HK.out | apply KeepBut.set_ | apply keep_drewN | apply keep_drew | apply keep_alloc) | exact HK.out)⟩, ⟨by repeat (first | (with_reducible first | exact HB.out | apply below_alloc | apply pw_below_drewN | apply below_drew1 | refine below_set ?_ (IsN26.ge HI0.out)) | exact HB.out)⟩⟩
                            · replace c22 := Bool.eq_false_iff.mpr c22
                              subst c22
                              have H1 : (some (false, s0_0)) = some (r1, r2) := by rw [if_neg (show ¬ (false = true) by decide)] at H; exact H
                              clear H
                              have H := H1
                              clear H1
                              simp only [Option.some.injEq, Prod.mk.injEq] at H
                              obtain ⟨rfl, rfl⟩ := H
                              obtain ⟨ASz24_1, cSz24_1, ASz24_2, cSz24_2, HGz24, hgz24, HSz24_1, HSz24_2⟩ := HI0.out
                              have hcz24_0 := cellS26_0 HGz24
                              have hcz24_1 := cellS26_1 HGz24
                              have hcz24_2 := cellS26_2 HGz24
                              have hfz24_0 := blk_frozen HGz24 0
                              clear HGz24 hgz24
                              have p120 : 0 ≤ (x4_2 : Int) := of_decide_eq_true (by first | (with_reducible assumption) | assumption)
                              have q120 : x4_2 < (s0_1.length : Int) := of_decide_eq_true (by first | (with_reducible assumption) | assumption)
                              obtain ⟨ad120, e120, hx120_0⟩ := Kd.at_int HSz24_1.1 x4_2 p120 q120
                              cases e120
                              replace hx120_0 := pw_cell_below HB.out hx120_0
                              replace p120 := eq_true p120
                              replace q120 := eq_true q120
                              go_wp2_with (first | ((with_reducible refine gate_callee (f := 60) rfl ?_); refine goesL_ (some 42) rfl rfl Try.func60 (by kernel_rfl) rfl #[.int .i64 (rd s0_1 x4_2), .int .i64 1, .int .i64 16] rfl (by (try simp only [List.map_toArray, List.map_cons, List.map_nil]); first | done | rfl | (simp only [List.length_drop, List.length_take]; rfl)) ?_; (with_reducible refine (spec_l00In.calls (rd s0_1 x4_2) 1 16 true _ A15.out).mono ?_); rintro e w' ⟨rfl, ⟨nd, rfl⟩⟩; refine ⟨_, rfl, ?_⟩; have p122 : 0 ≤ (x4_2 : Int) := of_decide_eq_true (by first | (with_reducible assumption) | assumption); have q122 : x4_2 < (s0_2.length : Int) := of_decide_eq_true (by first | (with_reducible assumption) | assumption); obtain ⟨ad122, e122, hx122_0⟩ := Kd.at_int HSz24_2.1 x4_2 p122 q122; cases e122; replace hx122_0 := pw_cell_below HB.out hx122_0; replace p122 := eq_true p122; replace q122 := eq_true q122; have p123 : 0 ≤ (x4_2 : Int) := of_decide_eq_true (by first | (with_reducible assumption) | assumption); have q123 : x4_2 < (s0_2.length : Int) := of_decide_eq_true (by first | (with_reducible assumption) | assumption); obtain ⟨ad123, e123, hx123_0⟩ := Kd.at_int HSz24_2.1 x4_2 p123 q123; obtain rfl : ad122 = ad123 := (by injection e123); replace hx123_0 := pw_cell_below HB.out hx123_0; replace p123 := eq_true p123; replace q123 := eq_true q123) | (go_at_call 60; (with_reducible refine (spec_l00In.calls (rd s0_2 x4_2) 2 3 false _ A21.out).mono ?_); rintro e w' ⟨rfl, ⟨nd, rfl⟩⟩))
                              go_ret
                              exact ⟨by first | rfl | (simp [errW_none, errW_some] <;> rfl) | (simp [*, errW_none, errW_some] <;> rfl), by repeat (first | (with_reducible first | exact HI0.out | apply IsN26.alloc | apply IsN26.drewN | apply IsN26.drew | apply IsN26.set_0) | exact HI0.out), by repeat (first | (with_reducible first | exact HB.out | apply below_alloc | apply pw_below_drewN | apply below_drew1 | refine below_set ?_ (IsN26.ge HI0.out)) | exact HB.out), by repeat (first | (with_reducible first | exact HK.out | apply KeepBut.set_ | apply keep_drewN | apply keep_drew | apply keep_alloc) | exact HK.out)⟩
                          · rw [if_neg c20] at H
                            have c20b0 : decide (0 < x4_2) = false := decide_eq_false c20
                            clear c20
                            have H' := Aside0.mk H
                            clear H
                            obtain ⟨ASz25_1, cSz25_1, ASz25_2, cSz25_2, HGz25, hgz25, HSz25_1, HSz25_2⟩ := HI0.out
                            have hcz25_0 := cellS26_0 HGz25
                            have hcz25_1 := cellS26_1 HGz25
                            have hcz25_2 := cellS26_2 HGz25
                            have hfz25_0 := blk_frozen HGz25 0
                            clear HGz25 hgz25
                            have p120 : 0 ≤ (x4_2 : Int) := of_decide_eq_true (by first | (with_reducible assumption) | assumption)
                            have q120 : x4_2 < (s0_1.length : Int) := of_decide_eq_true (by first | (with_reducible assumption) | assumption)
                            obtain ⟨ad120, e120, hx120_0⟩ := Kd.at_int HSz25_1.1 x4_2 p120 q120
                            cases e120
                            replace hx120_0 := pw_cell_below HB.out hx120_0
                            replace p120 := eq_true p120
                            replace q120 := eq_true q120
                            go_wp2_with (first | ((with_reducible refine gate_callee (f := 60) rfl ?_); refine goesL_ (some 42) rfl rfl Try.func60 (by kernel_rfl) rfl #[.int .i64 (rd s0_1 x4_2), .int .i64 1, .int .i64 16] rfl (by (try simp only [List.map_toArray, List.map_cons, List.map_nil]); first | done | rfl | (simp only [List.length_drop, List.length_take]; rfl)) ?_; (with_reducible refine (spec_l00In.calls (rd s0_1 x4_2) 1 16 true _ A15.out).mono ?_); rintro e w' ⟨rfl, ⟨nd, rfl⟩⟩; refine ⟨_, rfl, ?_⟩; have p122 : 0 ≤ (x4_2 : Int) := of_decide_eq_true (by first | (with_reducible assumption) | assumption); have q122 : x4_2 < (s0_2.length : Int) := of_decide_eq_true (by first | (with_reducible assumption) | assumption); obtain ⟨ad122, e122, hx122_0⟩ := Kd.at_int HSz25_2.1 x4_2 p122 q122; cases e122; replace hx122_0 := pw_cell_below HB.out hx122_0; replace p122 := eq_true p122; replace q122 := eq_true q122))
                            go_roundg k2
                            case measure => have := HJ1.out; have := HK2.out; omega
                            case rel => exact ⟨(wrap64 (x4_2 + 1)), (by first | rfl | (simp; done) | (simp [*]; done)), H', ⟨by have := HJ1.out; have := HK2.out; omega⟩, ⟨by repeat (first | (with_reducible first | exact HI0.out | apply IsN26.alloc | apply IsN26.drewN | apply IsN26.drew | apply IsN26.set_0) | exact HI0.out)⟩, ⟨by repeat (first | (with_reducible first | exact HK.out | apply KeepBut.set_ | apply keep_drewN | apply keep_drew | apply keep_alloc) | exact HK.out)⟩, ⟨by repeat (first | (with_reducible first | exact HB.out | apply below_alloc | apply pw_below_drewN | apply below_drew1 | refine below_set ?_ (IsN26.ge HI0.out)) | exact HB.out)⟩⟩
                        · rw [if_neg c19] at H
                          have c19b0 : ((rd s0_2 x4_2) == 1) = false := beq_eq_false_iff_ne.mpr c19
                          have c19b1 : ((rd s0_2 x4_2) != 1) = true := bne_iff_ne.mpr c19
                          simp only [Option.some.injEq, Prod.mk.injEq] at H
                          obtain ⟨rfl, rfl⟩ := H
                          obtain ⟨ASz26_1, cSz26_1, ASz26_2, cSz26_2, HGz26, hgz26, HSz26_1, HSz26_2⟩ := HI0.out
                          have hcz26_0 := cellS26_0 HGz26
                          have hcz26_1 := cellS26_1 HGz26
                          have hcz26_2 := cellS26_2 HGz26
                          have hfz26_0 := blk_frozen HGz26 0
                          clear HGz26 hgz26
                          have p120 : 0 ≤ (x4_2 : Int) := of_decide_eq_true (by first | (with_reducible assumption) | assumption)
                          have q120 : x4_2 < (s0_1.length : Int) := of_decide_eq_true (by first | (with_reducible assumption) | assumption)
                          obtain ⟨ad120, e120, hx120_0⟩ := Kd.at_int HSz26_1.1 x4_2 p120 q120
                          cases e120
                          replace hx120_0 := pw_cell_below HB.out hx120_0
                          replace p120 := eq_true p120
                          replace q120 := eq_true q120
                          go_wp2_with (first | ((with_reducible refine gate_callee (f := 60) rfl ?_); refine goesL_ (some 42) rfl rfl Try.func60 (by kernel_rfl) rfl #[.int .i64 (rd s0_1 x4_2), .int .i64 1, .int .i64 16] rfl (by (try simp only [List.map_toArray, List.map_cons, List.map_nil]); first | done | rfl | (simp only [List.length_drop, List.length_take]; rfl)) ?_; (with_reducible refine (spec_l00In.calls (rd s0_1 x4_2) 1 16 true _ A15.out).mono ?_); rintro e w' ⟨rfl, ⟨nd, rfl⟩⟩; refine ⟨_, rfl, ?_⟩; have p122 : 0 ≤ (x4_2 : Int) := of_decide_eq_true (by first | (with_reducible assumption) | assumption); have q122 : x4_2 < (s0_2.length : Int) := of_decide_eq_true (by first | (with_reducible assumption) | assumption); obtain ⟨ad122, e122, hx122_0⟩ := Kd.at_int HSz26_2.1 x4_2 p122 q122; cases e122; replace hx122_0 := pw_cell_below HB.out hx122_0; replace p122 := eq_true p122; replace q122 := eq_true q122))
                          go_ret
                          exact ⟨by first | rfl | (simp [errW_none, errW_some] <;> rfl) | (simp [*, errW_none, errW_some] <;> rfl), by repeat (first | (with_reducible first | exact HI0.out | apply IsN26.alloc | apply IsN26.drewN | apply IsN26.drew | apply IsN26.set_0) | exact HI0.out), by repeat (first | (with_reducible first | exact HB.out | apply below_alloc | apply pw_below_drewN | apply below_drew1 | refine below_set ?_ (IsN26.ge HI0.out)) | exact HB.out), by repeat (first | (with_reducible first | exact HK.out | apply KeepBut.set_ | apply keep_drewN | apply keep_drew | apply keep_alloc) | exact HK.out)⟩
                      · rw [if_neg c18] at H
                        exact absurd H (by simp)
                    · rw [if_neg c17] at H
                      have c17b0 : (x4_2 == 0) = false := beq_eq_false_iff_ne.mpr c17
                      have c17b1 : (x4_2 != 0) = true := bne_iff_ne.mpr c17
                      by_cases c27 : x4_2 > 0
                      · rw [if_pos c27] at H
                        have c27b0 : decide (0 < x4_2) = true := decide_eq_true c27
                        clear c27
                        by_cases c28 : x4_2 < (s0_2.length : Int)
                        · rw [if_pos c28] at H
                          have c28b0 : decide (x4_2 < (s0_2.length : Int)) = true := decide_eq_true c28
                          clear c28
                          replace H := Option.bind_eq_some_iff.mp H
                          obtain ⟨t126, A290, H⟩ := H
                          replace H : (if t126 = true then (spec_l17Ok.l0 k2 (s0_1.length : Int) (wrap64 (x4_2 + 1)) s0_0 s0_1 s0_2) else (some (false, s0_0))) = some (r1, r2) := H
                          have A29 := Aside0.mk A290
                          (try have EA29_A15 : t126 = t121 := Option.some.inj (A29.out.symm.trans A15.out))
                          clear A290
                          by_cases c30 : t126 = true
                          · subst c30
                            have H1 : (spec_l17Ok.l0 k2 (s0_1.length : Int) (wrap64 (x4_2 + 1)) s0_0 s0_1 s0_2) = some (r1, r2) := by rw [if_pos rfl] at H; exact H
                            clear H
                            have H := H1
                            clear H1
                            have H' := Aside0.mk H
                            clear H
                            obtain ⟨ASz31_1, cSz31_1, ASz31_2, cSz31_2, HGz31, hgz31, HSz31_1, HSz31_2⟩ := HI0.out
                            have hcz31_0 := cellS26_0 HGz31
                            have hcz31_1 := cellS26_1 HGz31
                            have hcz31_2 := cellS26_2 HGz31
                            have hfz31_0 := blk_frozen HGz31 0
                            clear HGz31 hgz31
                            have p120 : 0 ≤ (x4_2 : Int) := of_decide_eq_true (by first | (with_reducible assumption) | assumption)
                            have q120 : x4_2 < (s0_1.length : Int) := of_decide_eq_true (by first | (with_reducible assumption) | assumption)
                            obtain ⟨ad120, e120, hx120_0⟩ := Kd.at_int HSz31_1.1 x4_2 p120 q120
                            cases e120
                            replace hx120_0 := pw_cell_below HB.out hx120_0
                            replace p120 := eq_true p120
                            replace q120 := eq_true q120
                            go_wp2_with (first | ((with_reducible refine gate_callee (f := 60) rfl ?_); refine goesL_ (some 42) rfl rfl Try.func60 (by kernel_rfl) rfl #[.int .i64 (rd s0_1 x4_2), .int .i64 1, .int .i64 16] rfl (by (try simp only [List.map_toArray, List.map_cons, List.map_nil]); first | done | rfl | (simp only [List.length_drop, List.length_take]; rfl)) ?_; (with_reducible refine (spec_l00In.calls (rd s0_1 x4_2) 1 16 true _ A15.out).mono ?_); rintro e w' ⟨rfl, ⟨nd, rfl⟩⟩; refine ⟨_, rfl, ?_⟩; have p125 : 0 ≤ (x4_2 : Int) := of_decide_eq_true (by first | (with_reducible assumption) | assumption); have q125 : x4_2 < (s0_2.length : Int) := of_decide_eq_true (by first | (with_reducible assumption) | assumption); obtain ⟨ad125, e125, hx125_0⟩ := Kd.at_int HSz31_2.1 x4_2 p125 q125; cases e125; replace hx125_0 := pw_cell_below HB.out hx125_0; replace p125 := eq_true p125; replace q125 := eq_true q125) | (go_at_call 60; (with_reducible refine (spec_l00In.calls (rd s0_2 x4_2) 2 3 true _ A29.out).mono ?_); rintro e w' ⟨rfl, ⟨nd, rfl⟩⟩))
                            go_roundg k2
                            case measure => have := HJ1.out; have := HK2.out; omega
                            case rel => exact ⟨(wrap64 (x4_2 + 1)), (by first | rfl | (simp; done) | (simp [*]; done)), H', ⟨by have := HJ1.out; have := HK2.out; omega⟩, ⟨by repeat (first | (with_reducible first | exact HI0.out | apply IsN26.alloc | apply IsN26.drewN | apply IsN26.drew | apply IsN26.set_0) | exact HI0.out)⟩, ⟨by repeat (first | (with_reducible first | exact HK.out | apply KeepBut.set_ | apply keep_drewN | apply keep_drew | apply keep_alloc) | exact HK.out)⟩, ⟨by repeat (first | (with_reducible first | exact HB.out | apply below_alloc | apply pw_below_drewN | apply below_drew1 | refine below_set ?_ (IsN26.ge HI0.out)) | exact HB.out)⟩⟩
                          · replace c30 := Bool.eq_false_iff.mpr c30
                            subst c30
                            have H1 : (some (false, s0_0)) = some (r1, r2) := by rw [if_neg (show ¬ (false = true) by decide)] at H; exact H
                            clear H
                            have H := H1
                            clear H1
                            simp only [Option.some.injEq, Prod.mk.injEq] at H
                            obtain ⟨rfl, rfl⟩ := H
                            obtain ⟨ASz32_1, cSz32_1, ASz32_2, cSz32_2, HGz32, hgz32, HSz32_1, HSz32_2⟩ := HI0.out
                            have hcz32_0 := cellS26_0 HGz32
                            have hcz32_1 := cellS26_1 HGz32
                            have hcz32_2 := cellS26_2 HGz32
                            have hfz32_0 := blk_frozen HGz32 0
                            clear HGz32 hgz32
                            have p120 : 0 ≤ (x4_2 : Int) := of_decide_eq_true (by first | (with_reducible assumption) | assumption)
                            have q120 : x4_2 < (s0_1.length : Int) := of_decide_eq_true (by first | (with_reducible assumption) | assumption)
                            obtain ⟨ad120, e120, hx120_0⟩ := Kd.at_int HSz32_1.1 x4_2 p120 q120
                            cases e120
                            replace hx120_0 := pw_cell_below HB.out hx120_0
                            replace p120 := eq_true p120
                            replace q120 := eq_true q120
                            go_wp2_with (first | ((with_reducible refine gate_callee (f := 60) rfl ?_); refine goesL_ (some 42) rfl rfl Try.func60 (by kernel_rfl) rfl #[.int .i64 (rd s0_1 x4_2), .int .i64 1, .int .i64 16] rfl (by (try simp only [List.map_toArray, List.map_cons, List.map_nil]); first | done | rfl | (simp only [List.length_drop, List.length_take]; rfl)) ?_; (with_reducible refine (spec_l00In.calls (rd s0_1 x4_2) 1 16 true _ A15.out).mono ?_); rintro e w' ⟨rfl, ⟨nd, rfl⟩⟩; refine ⟨_, rfl, ?_⟩; have p125 : 0 ≤ (x4_2 : Int) := of_decide_eq_true (by first | (with_reducible assumption) | assumption); have q125 : x4_2 < (s0_2.length : Int) := of_decide_eq_true (by first | (with_reducible assumption) | assumption); obtain ⟨ad125, e125, hx125_0⟩ := Kd.at_int HSz32_2.1 x4_2 p125 q125; cases e125; replace hx125_0 := pw_cell_below HB.out hx125_0; replace p125 := eq_true p125; replace q125 := eq_true q125) | (go_at_call 60; (with_reducible refine (spec_l00In.calls (rd s0_2 x4_2) 2 3 false _ A29.out).mono ?_); rintro e w' ⟨rfl, ⟨nd, rfl⟩⟩))
                            go_ret
                            exact ⟨by first | rfl | (simp [errW_none, errW_some] <;> rfl) | (simp [*, errW_none, errW_some] <;> rfl), by repeat (first | (with_reducible first | exact HI0.out | apply IsN26.alloc | apply IsN26.drewN | apply IsN26.drew | apply IsN26.set_0) | exact HI0.out), by repeat (first | (with_reducible first | exact HB.out | apply below_alloc | apply pw_below_drewN | apply below_drew1 | refine below_set ?_ (IsN26.ge HI0.out)) | exact HB.out), by repeat (first | (with_reducible first | exact HK.out | apply KeepBut.set_ | apply keep_drewN | apply keep_drew | apply keep_alloc) | exact HK.out)⟩
                        · rw [if_neg c28] at H
                          exact absurd H (by simp)
                      · rw [if_neg c27] at H
                        have c27b0 : decide (0 < x4_2) = false := decide_eq_false c27
                        clear c27
                        have H' := Aside0.mk H
                        clear H
                        obtain ⟨ASz33_1, cSz33_1, ASz33_2, cSz33_2, HGz33, hgz33, HSz33_1, HSz33_2⟩ := HI0.out
                        have hcz33_0 := cellS26_0 HGz33
                        have hcz33_1 := cellS26_1 HGz33
                        have hcz33_2 := cellS26_2 HGz33
                        have hfz33_0 := blk_frozen HGz33 0
                        clear HGz33 hgz33
                        have p120 : 0 ≤ (x4_2 : Int) := of_decide_eq_true (by first | (with_reducible assumption) | assumption)
                        have q120 : x4_2 < (s0_1.length : Int) := of_decide_eq_true (by first | (with_reducible assumption) | assumption)
                        obtain ⟨ad120, e120, hx120_0⟩ := Kd.at_int HSz33_1.1 x4_2 p120 q120
                        cases e120
                        replace hx120_0 := pw_cell_below HB.out hx120_0
                        replace p120 := eq_true p120
                        replace q120 := eq_true q120
                        go_wp2_with (first | ((with_reducible refine gate_callee (f := 60) rfl ?_); refine goesL_ (some 42) rfl rfl Try.func60 (by kernel_rfl) rfl #[.int .i64 (rd s0_1 x4_2), .int .i64 1, .int .i64 16] rfl (by (try simp only [List.map_toArray, List.map_cons, List.map_nil]); first | done | rfl | (simp only [List.length_drop, List.length_take]; rfl)) ?_; (with_reducible refine (spec_l00In.calls (rd s0_1 x4_2) 1 16 true _ A15.out).mono ?_); rintro e w' ⟨rfl, ⟨nd, rfl⟩⟩; refine ⟨_, rfl, ?_⟩))
                        go_roundg k2
                        case measure => have := HJ1.out; have := HK2.out; omega
                        case rel => exact ⟨(wrap64 (x4_2 + 1)), (by first | rfl | (simp; done) | (simp [*]; done)), H', ⟨by have := HJ1.out; have := HK2.out; omega⟩, ⟨by repeat (first | (with_reducible first | exact HI0.out | apply IsN26.alloc | apply IsN26.drewN | apply IsN26.drew | apply IsN26.set_0) | exact HI0.out)⟩, ⟨by repeat (first | (with_reducible first | exact HK.out | apply KeepBut.set_ | apply keep_drewN | apply keep_drew | apply keep_alloc) | exact HK.out)⟩, ⟨by repeat (first | (with_reducible first | exact HB.out | apply below_alloc | apply pw_below_drewN | apply below_drew1 | refine below_set ?_ (IsN26.ge HI0.out)) | exact HB.out)⟩⟩
                  · replace c16 := Bool.eq_false_iff.mpr c16
                    subst c16
                    have H1 : (some (false, s0_0)) = some (r1, r2) := by rw [if_neg (show ¬ (false = true) by decide)] at H; exact H
                    clear H
                    have H := H1
                    clear H1
                    simp only [Option.some.injEq, Prod.mk.injEq] at H
                    obtain ⟨rfl, rfl⟩ := H
                    obtain ⟨ASz34_1, cSz34_1, ASz34_2, cSz34_2, HGz34, hgz34, HSz34_1, HSz34_2⟩ := HI0.out
                    have hcz34_0 := cellS26_0 HGz34
                    have hcz34_1 := cellS26_1 HGz34
                    have hcz34_2 := cellS26_2 HGz34
                    have hfz34_0 := blk_frozen HGz34 0
                    clear HGz34 hgz34
                    have p120 : 0 ≤ (x4_2 : Int) := of_decide_eq_true (by first | (with_reducible assumption) | assumption)
                    have q120 : x4_2 < (s0_1.length : Int) := of_decide_eq_true (by first | (with_reducible assumption) | assumption)
                    obtain ⟨ad120, e120, hx120_0⟩ := Kd.at_int HSz34_1.1 x4_2 p120 q120
                    cases e120
                    replace hx120_0 := pw_cell_below HB.out hx120_0
                    replace p120 := eq_true p120
                    replace q120 := eq_true q120
                    go_wp2_with (first | ((with_reducible refine gate_callee (f := 60) rfl ?_); refine goesL_ (some 42) rfl rfl Try.func60 (by kernel_rfl) rfl #[.int .i64 (rd s0_1 x4_2), .int .i64 1, .int .i64 16] rfl (by (try simp only [List.map_toArray, List.map_cons, List.map_nil]); first | done | rfl | (simp only [List.length_drop, List.length_take]; rfl)) ?_; (with_reducible refine (spec_l00In.calls (rd s0_1 x4_2) 1 16 false _ A15.out).mono ?_); rintro e w' ⟨rfl, ⟨nd, rfl⟩⟩; refine ⟨_, rfl, ?_⟩))
                    go_ret
                    exact ⟨by first | rfl | (simp [errW_none, errW_some] <;> rfl) | (simp [*, errW_none, errW_some] <;> rfl), by repeat (first | (with_reducible first | exact HI0.out | apply IsN26.alloc | apply IsN26.drewN | apply IsN26.drew | apply IsN26.set_0) | exact HI0.out), by repeat (first | (with_reducible first | exact HB.out | apply below_alloc | apply pw_below_drewN | apply below_drew1 | refine below_set ?_ (IsN26.ge HI0.out)) | exact HB.out), by repeat (first | (with_reducible first | exact HK.out | apply KeepBut.set_ | apply keep_drewN | apply keep_drew | apply keep_alloc) | exact HK.out)⟩
                · rw [if_neg c14] at H
                  exact absurd H (by simp)
              · rw [if_neg c13] at H
                exact absurd H (by simp)
            · rw [if_neg c12] at H
              have c12b0 : decide (x4_2 < (s0_1.length : Int)) = false := decide_eq_false c12
              clear c12
              replace H := Option.bind_eq_some_iff.mp H
              obtain ⟨t119, A350, H⟩ := H
              replace H : (some (decide (t119 ≤ 32), s0_0)) = some (r1, r2) := H
              have A35 := Aside0.mk A350
              clear A350
              simp only [Option.some.injEq, Prod.mk.injEq] at H
              obtain ⟨rfl, rfl⟩ := H
              obtain ⟨ASz36_1, cSz36_1, ASz36_2, cSz36_2, HGz36, hgz36, HSz36_1, HSz36_2⟩ := HI0.out
              have hcz36_0 := cellS26_0 HGz36
              have hcz36_1 := cellS26_1 HGz36
              have hcz36_2 := cellS26_2 HGz36
              have hfz36_0 := blk_frozen HGz36 0
              clear HGz36 hgz36
              go_wp2_with (first | ((with_reducible refine gate_callee (f := 61) rfl ?_); refine goesL_ (some 75) rfl rfl Try.func61 (by kernel_rfl) rfl #[.slice ASz36_1 s0_1.length cSz36_1] rfl (by (try simp only [List.map_toArray, List.map_cons, List.map_nil]); first | done | rfl | (simp only [List.length_drop, List.length_take]; rfl)) ?_; (with_reducible refine (spec_l17Sum.calls k2 _ _ s0_1 t119 _ ?side1 ?side2 A35.out).mono ?_); (case side1 => exact Kd.C_below HSz36_1.1 (by repeat (first | (with_reducible first | exact HB.out | apply below_alloc | apply pw_below_drewN | apply below_drew1 | refine below_set ?_ (IsN26.ge HI0.out)) | exact HB.out))); (case side2 => exact HSz36_1.2); rintro e w' ⟨rfl, ⟨nd, rfl⟩⟩; refine ⟨_, rfl, ?_⟩))
              go_ret
              exact ⟨by first | rfl | (simp [errW_none, errW_some] <;> rfl) | (simp [*, errW_none, errW_some] <;> rfl), by repeat (first | (with_reducible first | exact HI0.out | apply IsN26.alloc | apply IsN26.drewN | apply IsN26.drew | apply IsN26.set_0) | exact HI0.out), by repeat (first | (with_reducible first | exact HB.out | apply below_alloc | apply pw_below_drewN | apply below_drew1 | refine below_set ?_ (IsN26.ge HI0.out)) | exact HB.out), by repeat (first | (with_reducible first | exact HK.out | apply KeepBut.set_ | apply keep_drewN | apply keep_drew | apply keep_alloc) | exact HK.out)⟩

end Go.Proofs.Ytbpliblhpiompaa.PFnCadences
