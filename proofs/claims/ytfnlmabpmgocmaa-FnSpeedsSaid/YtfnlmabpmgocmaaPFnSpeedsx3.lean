-- written by xprint.py, a program of this repo over the kit's print; not trusted: Lean checks it
import Derived.Test.YtfnlmabpmgocmaaPFnSpeedsx0
import Derived.Test.YtfnlmabpmgocmaaPFnSpeedsx1
import Derived.Test.YtfnlmabpmgocmaaPFnSpeedsx2
namespace Go.Proofs.Ytfnlmabpmgocmaa.PFnSpeeds
open Go.RowKit Go.Proofs.YtfnlmabpmgocmaaW.PrintWords Go.Proofs.YtfnlmabpmgocmaaW.PrintLast Go.Proofs.YtfnlmabpmgocmaaW.PrintMore
attribute [local go_sem] max2_int min2_int max_two min_two max_three min_three max_four min_four   -- for this text's walks alone
set_option linter.unusedVariables false
set_option linter.unusedSimpArgs false

/-! ### impl_MergeLayers: function 9, by hand -/
def mlKeys_ren : Go.Shelf.Ren := ⟨fun | 7 => 24 | 10 => 42 | n => n, fun | 23 => 48 | 26 => 2 | 3 => 2 | 28 => 52 | 0 => 0 | 27 => 51 | 33 => 68 | 4 => 4 | n => n, fun | n => n⟩
theorem mlKeys : Go.Proofs.SlLaysZI.n7 Try.prog mlKeys_ren := {
  mixed := by kernel_rfl,
  f7 := ⟨Try.f24.name, by decide, Try.func24.trans (congrArg some (by kernel_rfl))⟩,
  f10 := ⟨Try.f42.name, by decide, Try.func42.trans (congrArg some (by kernel_rfl))⟩,
  t0 := Try.underlying0,
  a0 := Try.isAgg0,
  z0 := Try.sizeOf0,
  v0 := Try.zeroValue0,
  t4 := Try.underlying4,
  a4 := Try.isAgg4,
  z4 := Try.sizeOf4,
  v4 := Try.zeroValue4,
  t23 := Try.underlying48,
  a23 := Try.isAgg48,
  z23 := Try.sizeOf48,
  v23 := Try.zeroValue48,
  t26 := Try.underlying2,
  a26 := Try.isAgg2,
  z26 := Try.sizeOf2,
  v26 := Try.zeroValue2,
  t27 := Try.underlying51,
  a27 := Try.isAgg51,
  z27 := Try.sizeOf51,
  v27 := Try.zeroValue51,
  t28 := Try.underlying52,
  a28 := Try.isAgg52,
  z28 := Try.sizeOf52,
  v28 := Try.zeroValue52,
  t33 := Try.underlying68,
  a33 := Try.isAgg68,
  z33 := Try.sizeOf68,
  v33 := Try.zeroValue68 }

def mlSorted_ren : Go.Shelf.Ren := ⟨fun | 6 => 23 | 8 => 40 | 9 => 41 | 11 => 48 | 13 => 50 | 12 => 49 | 23 => 60 | 24 => 61 | 14 => 51 | 15 => 52 | 16 => 53 | 17 => 54 | 18 => 55 | 19 => 56 | 20 => 57 | 21 => 58 | 22 => 59 | 25 => 62 | 26 => 63 | 27 => 64 | 28 => 65 | 29 => 66 | 30 => 67 | 31 => 68 | n => n, fun | 26 => 2 | 28 => 52 | 24 => 34 | 0 => 0 | 3 => 3 | 37 => 75 | 48 => 86 | 50 => 88 | 4 => 4 | 40 => 78 | 39 => 77 | 45 => 83 | 5 => 5 | 9 => 9 | 51 => 89 | 55 => 93 | 57 => 95 | 58 => 96 | 33 => 68 | n => n, fun | n => n⟩
theorem mlSorted : Go.Proofs.SlLaysZI.n6 Try.prog mlSorted_ren := {
  mixed := by kernel_rfl,
  f6 := ⟨Try.f23.name, by decide, Try.func23.trans (congrArg some (by kernel_rfl))⟩,
  f8 := ⟨Try.f40.name, by decide, Try.func40.trans (congrArg some (by kernel_rfl))⟩,
  f11 := ⟨Try.f48.name, by decide, Try.func48.trans (congrArg some (by kernel_rfl))⟩,
  t0 := Try.underlying0,
  a0 := Try.isAgg0,
  z0 := Try.sizeOf0,
  v0 := Try.zeroValue0,
  t24 := Try.underlying34,
  a24 := Try.isAgg34,
  z24 := Try.sizeOf34,
  v24 := Try.zeroValue34,
  t26 := Try.underlying2,
  a26 := Try.isAgg2,
  z26 := Try.sizeOf2,
  v26 := Try.zeroValue2,
  t28 := Try.underlying52,
  a28 := Try.isAgg52,
  z28 := Try.sizeOf52,
  v28 := Try.zeroValue52,
  i26 := by kernel_rfl }

def mlSort_ren : Go.Shelf.Ren := ⟨fun | 5 => 41 | 8 => 50 | 7 => 49 | 19 => 60 | 20 => 61 | 10 => 51 | 11 => 52 | 12 => 53 | 13 => 54 | 14 => 55 | 15 => 56 | 16 => 57 | 17 => 58 | 18 => 59 | 30 => 62 | 31 => 63 | 32 => 64 | 33 => 65 | 34 => 66 | 35 => 67 | 40 => 68 | n => n, fun | 23 => 34 | 25 => 2 | 3 => 3 | 32 => 75 | 22 => 34 | 0 => 0 | 44 => 86 | 46 => 88 | 4 => 4 | 36 => 78 | 35 => 77 | 41 => 83 | 5 => 5 | 9 => 9 | 53 => 89 | 57 => 93 | 63 => 95 | 64 => 96 | n => n, fun | n => n⟩
theorem mlSort : Go.Proofs.SlLaysM.n5 Try.prog mlSort_ren := {
  mixed := by kernel_rfl,
  f5 := ⟨Try.f41.name, by decide, Try.func41.trans (congrArg some (by kernel_rfl))⟩,
  f7 := ⟨Try.f49.name, by decide, Try.func49.trans (congrArg some (by kernel_rfl))⟩,
  f8 := Try.func50.trans (congrArg some (by kernel_rfl)),
  f10 := ⟨Try.f51.name, by decide, Try.func51.trans (congrArg some (by kernel_rfl))⟩,
  f11 := ⟨Try.f52.name, by decide, Try.func52.trans (congrArg some (by kernel_rfl))⟩,
  f12 := ⟨Try.f53.name, by decide, Try.func53.trans (congrArg some (by kernel_rfl))⟩,
  f13 := ⟨Try.f54.name, by decide, Try.func54.trans (congrArg some (by kernel_rfl))⟩,
  f14 := ⟨Try.f55.name, by decide, Try.func55.trans (congrArg some (by kernel_rfl))⟩,
  f15 := ⟨Try.f56.name, by decide, Try.func56.trans (congrArg some (by kernel_rfl))⟩,
  f16 := ⟨Try.f57.name, by decide, Try.func57.trans (congrArg some (by kernel_rfl))⟩,
  f17 := ⟨Try.f58.name, by decide, Try.func58.trans (congrArg some (by kernel_rfl))⟩,
  f18 := ⟨Try.f59.name, by decide, Try.func59.trans (congrArg some (by kernel_rfl))⟩,
  f19 := Try.func60.trans (congrArg some (by kernel_rfl)),
  f20 := Try.func61.trans (congrArg some (by kernel_rfl)),
  f30 := ⟨Try.f62.name, by decide, Try.func62.trans (congrArg some (by kernel_rfl))⟩,
  f31 := Try.func63.trans (congrArg some (by kernel_rfl)),
  f32 := Try.func64.trans (congrArg some (by kernel_rfl)),
  f33 := ⟨Try.f65.name, by decide, Try.func65.trans (congrArg some (by kernel_rfl))⟩,
  f34 := ⟨Try.f66.name, by decide, Try.func66.trans (congrArg some (by kernel_rfl))⟩,
  f35 := ⟨Try.f67.name, by decide, Try.func67.trans (congrArg some (by kernel_rfl))⟩,
  f40 := ⟨Try.f68.name, by decide, Try.func68.trans (congrArg some (by kernel_rfl))⟩,
  t0 := Try.underlying0,
  a0 := Try.isAgg0,
  z0 := Try.sizeOf0,
  v0 := Try.zeroValue0,
  t3 := Try.underlying3,
  a3 := Try.isAgg3,
  z3 := Try.sizeOf3,
  v3 := Try.zeroValue3,
  t4 := Try.underlying4,
  a4 := Try.isAgg4,
  z4 := Try.sizeOf4,
  v4 := Try.zeroValue4,
  t5 := Try.underlying5,
  a5 := Try.isAgg5,
  z5 := Try.sizeOf5,
  v5 := Try.zeroValue5,
  t9 := Try.underlying9,
  a9 := Try.isAgg9,
  z9 := Try.sizeOf9,
  v9 := Try.zeroValue9,
  t22 := Try.underlying34,
  a22 := Try.isAgg34,
  z22 := Try.sizeOf34,
  v22 := Try.zeroValue34,
  t23 := Try.underlying34,
  a23 := Try.isAgg34,
  z23 := Try.sizeOf34,
  v23 := Try.zeroValue34,
  t25 := Try.underlying2,
  a25 := Try.isAgg2,
  z25 := Try.sizeOf2,
  v25 := Try.zeroValue2,
  t32 := Try.underlying75,
  a32 := Try.isAgg75,
  z32 := Try.sizeOf75,
  v32 := Try.zeroValue75,
  t35 := Try.underlying77,
  a35 := Try.isAgg77,
  z35 := Try.sizeOf77,
  v35 := Try.zeroValue77,
  t36 := Try.underlying78,
  a36 := Try.isAgg78,
  z36 := Try.sizeOf78,
  v36 := Try.zeroValue78,
  t41 := Try.underlying83,
  a41 := Try.isAgg83,
  z41 := Try.sizeOf83,
  v41 := Try.zeroValue83,
  t44 := Try.underlying86,
  a44 := Try.isAgg86,
  z44 := Try.sizeOf86,
  v44 := Try.zeroValue86,
  t46 := Try.underlying88,
  a46 := Try.isAgg88,
  z46 := Try.sizeOf88,
  v46 := Try.zeroValue88,
  t53 := Try.underlying89,
  a53 := Try.isAgg89,
  z53 := Try.sizeOf89,
  v53 := Try.zeroValue89,
  t57 := Try.underlying93,
  a57 := Try.isAgg93,
  z57 := Try.sizeOf93,
  v57 := Try.zeroValue93,
  t63 := Try.underlying95,
  a63 := Try.isAgg95,
  z63 := Try.sizeOf95,
  v63 := Try.zeroValue95,
  t64 := Try.underlying96,
  a64 := Try.isAgg96,
  z64 := Try.sizeOf96,
  v64 := Try.zeroValue96 }

def ml_dd : List Int → List Int
  | [] => []
  | x :: xs => if x ∈ xs then ml_dd xs else x :: ml_dd xs
theorem ml_dd_mem (l : List Int) : ∀ x, x ∈ ml_dd l ↔ x ∈ l := by
  induction l with
  | nil => intro x; simp [ml_dd]
  | cons y l ih =>
    intro x
    unfold ml_dd
    split
    · rename_i h
      rw [ih x, List.mem_cons]
      exact ⟨.inr, fun h' => h'.elim (fun e => e ▸ h) id⟩
    · rw [List.mem_cons, List.mem_cons, ih x]
theorem ml_dd_nodup (l : List Int) : (ml_dd l).Nodup := by
  induction l with
  | nil => exact List.nodup_nil
  | cons y l ih =>
    unfold ml_dd
    split
    · exact ih
    · rename_i h
      exact List.nodup_cons.2 ⟨fun h' => h ((ml_dd_mem l y).1 h'), ih⟩
def ml_keys (l : List Int) : List Int := (ml_dd l).mergeSort fun x y => decide (x ≤ y)
def ml_rows (l : List Int) : List (List Int) := (ml_keys l).map fun x => [x, (l.count x : Int)]
def ml_all (k : Nat) (t : Int) : List S26 → Option (List Int)
  | [] => some []
  | x :: xs => (impl_Layer_hitTicks.f k x.f0 x.f1 t).bind fun h => (ml_all k t xs).bind fun r => some (h ++ r)
def ml_ok (l : List Int) : Bool := decide (l.length ≤ 1000) && l.all fun x => decide (0 ≤ x ∧ x ≤ 1000000000)
def impl_MergeLayers.f (k : Nat) (l0 : List S26) : Option (List (List Int) × Int) := (impl_TicksFor.f k l0).bind fun t => if t.2 = 0 then (ml_all k t.1 l0).bind fun hs => if ml_ok hs = true then some (ml_rows hs, 0) else none else some ([], t.2)
theorem ml_all.mono (t : Int) (k : Nat) : ∀ l, LeO (ml_all k t l) (ml_all (k + 1) t l)
  | [] => LeO.refl _
  | _ :: l => LeO.bind (impl_Layer_hitTicks.mono _ _ _ _) (fun _ => LeO.bind (ml_all.mono t k l) (fun _ => LeO.refl _))
theorem impl_MergeLayers.mono : ∀ a0 k, LeO (impl_MergeLayers.f k a0) (impl_MergeLayers.f (k + 1) a0) := by
  intro a0 k
  unfold impl_MergeLayers.f
  exact LeO.bind (impl_TicksFor.mono _ _) (fun _ => LeO.ite (LeO.bind (ml_all.mono _ _ _) (fun _ => LeO.refl _)) (LeO.refl _))
theorem ml_ok_p {l : List Int} (h : ml_ok l = true) : l.length ≤ 1000 ∧ ∀ x ∈ l, 0 ≤ x ∧ x ≤ 1000000000 := by
  simp only [ml_ok, Bool.and_eq_true, decide_eq_true_eq, List.all_eq_true] at h
  exact h
structure mlT (D : DataW Unit) (ms : List Int) : Prop where
  isMap : Maps.IsMap D
  has : ∀ x : Int, Maps.has D (.int .i64 x) = decide (x ∈ ms)
  num : ∀ x : Int, D.atKey (.int .i64 x) (.lit (.int .i64 0)) = .lit (.int .i64 (ms.count x))
theorem mlT_start : mlT (.map []) [] := ⟨Maps.isMap_empty, fun x => by simp [Maps.has], fun x => by simp [DataW.atKey]⟩
theorem mlT_step {D : DataW Unit} {ms : List Int} (h : mlT D ms) (x : Int) : mlT (D.put (.int .i64 x) (.lit (.int .i64 ((ms.count x : Int) + 1)))) (ms ++ [x]) := by
  have hk : WideAt.IsKeyLit (.int .i64 x) := by first | trivial | simp [WideAt.IsKeyLit]
  refine ⟨h.isMap.put _ _, fun y => ?_, fun y => ?_⟩
  · by_cases e : y = x
    · subst e
      rw [Maps.has_put_same h.isMap hk]; simp
    · rw [Maps.has_put_other (fun e' => e (by injection e')), h.has y]
      simp [e]
  · by_cases e : y = x
    · subst e
      rw [Maps.atKey_put_same h.isMap hk]; simp [List.count_append]
    · rw [Maps.atKey_put_other (fun e' => e (by injection e')), h.num y]
      simp [List.count_append, List.count_cons, Ne.symm e]
theorem ml_info : (Try.prog.info? 34).map (fun i => (i.zero, i.size, i.bytes)) = some (some (.slice none 0 0), 1, 24) := by kernel_rfl
theorem ml_law : Maps.Keyed Try.prog 2 := Maps.int_keyed Try.underlying2
theorem ml_zero (w : World) : (zeroValue 2).run Try.prog w = .ok (.int .i64 0) w := by kernel_rfl
theorem mlSorts (m : Nat) : AnyZI.SortsIn Try.prog mlSorted_ren Fence.wide m :=
  ⟨fun blk off cap ss W hH hblk hsz => callsIn_wide.2 (AnyM.slices_Sort_int mlSort blk off cap ss W hH hblk hsz),
   fun p cap W => callsIn_wide.2 (AnyM.slices_Sort_int_none mlSort p cap W)⟩
theorem ml_keysC (mb : Option Nat) (w : World) : Calls Try.prog 24 #[.map mb] w fun e w' => e = .returned (.func (.func 42) #[] #[.pointer (some ⟨w.heap.size, 0, none⟩)]) ∧ w' = w.alloc (.cells #[.map mb] 48) :=
  callsIn_wide.1 (AnyZI.keys_in mlKeys Fence.wide 5 trivial rfl mb w)
theorem ml_sortedC (b nn Bm : Nat) (D0 : DataW Unit) (R : Value → Option (DataW Unit × List MemPlace)) (w : World) (hm : w.cell? ⟨Bm, 0, none⟩ = some (.map (some b))) (hown : w.ownsMap Try.prog 2 R b nn D0) (hmax : Maps.size D0 ≤ maxLen) (hbytes : Maps.size D0 * 8 ≤ 140737488355328) :
    Calls Try.prog 23 #[.func (.func 42) #[] #[.pointer (some ⟨Bm, 0, none⟩)]] w fun e w' => ∃ (v : Value) (ss : List Int), e = .returned v ∧ ss.Perm (intKeys D0) ∧
      w'.ownsRow w.heap.size 2 1 v ss.length ((ss.mergeSort (fun x y => decide (x ≤ y))).map encZ) ∧ (v = .slice none 0 0 ↔ ss = []) ∧ Below w.heap.size w w' := by
  have hseq : SeqGives Fence.wide 2 Try.prog 42 #[.pointer (some ⟨Bm, 0, none⟩)] encZ (fun ss => ss.Perm (intKeys D0)) (Maps.size D0) w :=
    AnyZI.keys_gives (ρ := mlKeys_ren) { mlKeys with } Fence.wide _ trivial rfl (by omega) Bm b nn D0 _ (World.block_lt_of_cell? w _ hm) hm hown
  exact callsIn_wide.1 (AnyZI.sorted_in mlSorted Fence.wide 5 trivial trivial trivial trivial rfl (by omega) (mlSorts _) (enters_of Try.func41 (by kernel_rfl) rfl) 42 #[.pointer (some ⟨Bm, 0, none⟩)] trivial (enters_of Try.func42 (by kernel_rfl) rfl) _ _ hmax hbytes _ hseq)
theorem ml_R {W : World} {base : Nat} {v : Value} {n : Nat} {xs : List Int} (h : W.ownsRow base 2 1 v n (xs.map encZ)) (hn : n = xs.length) (hb : ∀ k, v.ownBlock = some k → True) : Kd.R (Kd.int .i64) 2 W base (fun _ => True) v xs := by
  subst hn
  exact Kd.R_of_own h (fun k hk => trivial)
theorem ml_map_ne {P : Program} {W : World} {base : Nat} {v : Value} {xs : List Int} {B n : Nat} {D : DataW Unit} {t : TypeId} {R : Value → Option (DataW Unit × List MemPlace)} (h : Kd.R (Kd.int .i64) 2 W base (fun _ => True) v xs) (hm : W.ownsMap P t R B n D) : some B ≠ v.ownBlock := by
  intro e
  obtain ⟨es, clock, hb, _⟩ := hm
  have ho := Kd.own_of_R h
  rcases ho.2 with ⟨rfl, hn⟩ | ⟨g, cap, cur, rfl, hg, hb2, _⟩
  · simp [Value.ownBlock] at e
  · simp only [Value.ownBlock, Option.some.injEq] at e
    subst e
    rw [hb] at hb2
    simp at hb2
theorem ml_map_below {P : Program} {W W1 : World} {B n : Nat} {D : DataW Unit} {t : TypeId} {R : Value → Option (DataW Unit × List MemPlace)} (hm : W.ownsMap P t R B n D) (hB : Below W.heap.size W W1) : W1.ownsMap P t R B n D := by
  have hbl := hm.lt
  obtain ⟨es, clock, hb, Ft, hs, hD⟩ := hm
  exact ⟨es, clock, (hB.block B hbl).trans hb, Ft, hs, hD⟩
theorem ml_rd (xs : List Int) (j : Nat) (hj : j < xs.length) : rd xs (j : Int) = xs[j] := by
  unfold rd
  rw [Int.toNat_natCast, List.getD_eq_getElem?_getD, List.getElem?_eq_getElem hj]; rfl
theorem ml_dd_len (l : List Int) : (ml_dd l).length ≤ l.length := by
  induction l with
  | nil => exact Nat.le_refl _
  | cons x l ih =>
    unfold ml_dd
    split
    · exact Nat.le_succ_of_le ih
    · exact Nat.succ_le_succ ih
theorem ml_keys_b (hs : List Int) (h : hs.length ≤ 1000 ∧ ∀ x ∈ hs, 0 ≤ x ∧ x ≤ 1000000000) : (ml_keys hs).length ≤ 1000 ∧ ∀ x ∈ ml_keys hs, 0 ≤ x ∧ x ≤ 1000000000 := by
  unfold ml_keys
  refine ⟨by rw [List.length_mergeSort]; exact Nat.le_trans (ml_dd_len hs) h.1, fun x hx => h.2 x ((ml_dd_mem hs x).1 (List.mem_mergeSort.1 hx))⟩
theorem ml_map_app {P : Program} {W W1 : World} {v : Value} {e B n : Nat} {D : DataW Unit} {t : TypeId} {R : Value → Option (DataW Unit × List MemPlace)} (hm : W.ownsMap P t R B n D) (hv : ∀ k, v.ownBlock = some k → ∃ cells, W.heap[k]? = some (.cells cells e (0, 0))) (hg : W.grownBy W1 v.ownBlock) : W1.ownsMap P t R B n D := by
  refine hm.kept hg (fun e1 => ?_)
  obtain ⟨cells, hc⟩ := hv B e1.symm
  obtain ⟨es, clock, hb, _⟩ := hm
  rw [hc] at hb
  simp at hb
set_option maxHeartbeats 8000000 in
set_option maxRecDepth 100000 in
theorem impl_MergeLayers.calls (k : Nat) (A0 : Option Addr) (c0 : Nat) (l0 : List S26) (r1 : List (List Int)) (r2 : Int) (w : World) (hr0 : Kd.C k26 w A0 l0.length l0) (hc0 : l0.length ≤ c0) (h : impl_MergeLayers.f k l0 = some (r1, r2)) :
    Calls Try.prog 9 #[.slice A0 l0.length c0] w fun e w' => ∃ v0_ : Value, e = .returned (.tuple #[v0_, .int .i64 r2]) ∧ Kd.S (Kd.slice 2 (Kd.int .i64)) 34 w' w.heap.size (fun _ => True) v0_ r1 ∧ Below w.heap.size w w' := by
  have hbig := Kd.C_max hr0
  have HR0 := Aside0.mk hr0
  have HC0 := Aside0.mk hc0
  clear hr0 hc0
  unfold impl_MergeLayers.f at h
  obtain ⟨⟨t1, t2⟩, htf, H⟩ := Option.bind_eq_some_iff.mp h
  clear h
  have TF := Aside0.mk htf
  clear htf
  dsimp only at H
  by_cases c : t2 = 0
  · subst c
    rw [if_pos rfl] at H
    obtain ⟨hs, hhs, H⟩ := Option.bind_eq_some_iff.mp H
    by_cases ok : ml_ok hs = true
    · rw [if_pos ok] at H
      simp only [Option.some.injEq, Prod.mk.injEq] at H
      obtain ⟨rfl, rfl⟩ := H
      have OK := Aside0.mk (ml_ok_p ok)
      have HS := Aside0.mk hhs
      clear hhs ok
      have hmm := @run_makeMap Try.prog
      go_enter Try.func9, Try.ntmps9
      go_wp2_with (fail)
      refine (impl_TicksFor.calls k A0 c0 l0 t1 0 _ (Kd.C_below HR0.out (Below.refl w.heap.size w)) HC0.out TF.out).mono ?_
      rintro e w2 ⟨rfl, hb_⟩
      have HB2 : Aside0 (Below w.heap.size w w2) := ⟨below_then (Below.refl w.heap.size w) ((Below.refl w.heap.size w)).size hb_⟩
      clear hb_
      dsimp only
      go_wp2_with (fail)
      go_loopg [25] l0.length (fun gg v25 wr => ∃ (kk : Nat) (ms rest : List Int) (D : DataW Unit), kk ≤ l0.length ∧ l0.length - kk ≤ gg ∧ v25 = .int .i64 kk ∧ Aside0 (hs = ms ++ rest) ∧ Aside0 (ml_all k t1 (l0.drop kk) = some rest) ∧ Aside0 (mlT D ms) ∧ Aside0 (wr.ownsMap Try.prog 2 (plainElem Try.prog 2) w2.heap.size ms.length D) ∧ Aside0 (Below w.heap.size w wr))
      case atStart => exact ⟨0, [], hs, .map [], by omega, by omega, rfl, ⟨rfl⟩, HS, ⟨mlT_start⟩, ⟨World.ownsMap_made _ _ _ _⟩, ⟨by repeat (first | exact HB2.out | apply below_alloc | apply pw_below_drewN | apply below_drew1)⟩⟩
      case round => as_aux_lemma =>
        obtain ⟨kk, ms, rest, D, hkk, hg, rfl, SP, HA, HT, HM, BW⟩ := hrel
        by_cases hlt : kk < l0.length
        · have hltz : (kk : Int) < (l0.length : Int) := by omega
          obtain ⟨ad, e1, hc, hc1⟩ := at_T26 (Kd.C_below HR0.out BW.out) (kk : Int) (by omega) hltz
          cases e1
          rw [rdLy] at hc hc1
          rw [Int.toNat_natCast] at hc hc1
          have hA := HA.out
          rw [List.drop_eq_getElem_cons hlt, ← getDLy l0 kk hlt] at hA
          generalize hy : l0.getD kk z26 = y at hc hc1 hA
          have B := Aside0.mk hy
          clear hy HA
          unfold ml_all at hA
          obtain ⟨hh, hhh, hA⟩ := Option.bind_eq_some_iff.mp hA
          obtain ⟨rr, hrr, hA⟩ := Option.bind_eq_some_iff.mp hA
          have HH := Aside0.mk hhh
          have HR := Aside0.mk hrr
          have RE := Aside0.mk (Option.some.inj hA)
          clear hhh hrr hA
          go_wp2_with (fail)
          refine (impl_Layer_hitTicks.calls k y.f0 y.f1 t1 hh _ HH.out).mono ?_
          rintro e wa ⟨va, rfl, hRa, hb_⟩
          have BA : Aside0 (Below w.heap.size w wa) := ⟨below_then (by repeat (first | exact BW.out | apply below_alloc | apply pw_below_drewN | apply below_drew1)) (by simp only [World.alloc, Array.size_push]; exact Nat.le_succ_of_le BW.out.size) hb_⟩
          have MA := Aside0.mk (ml_map_below (HM.out.alloc (Obj.cells #[Value.int IntKind.i64 y.f0, Value.int IntKind.i64 y.f1] 26)) hb_)
          have RA := Aside0.mk (Kd.R_lower hRa (show w.heap.size ≤ _ by simp only [World.alloc, Array.size_push]; exact Nat.le_succ_of_le BW.out.size))
          clear hb_ hRa hc hc1 HM BW
          obtain ⟨Aa, ca, rfl⟩ := Kd.R_slice RA.out
          dsimp only
          go_wp2_with (fail)
          go_loopg [33] hh.length (fun gg2 v33 wi => ∃ (j : Nat) (D2 : DataW Unit), j ≤ hh.length ∧ hh.length - j ≤ gg2 ∧ v33 = .int .i64 j ∧ Aside0 (mlT D2 (ms ++ hh.take j)) ∧ Aside0 (wi.ownsMap Try.prog 2 (plainElem Try.prog 2) w2.heap.size (ms.length + j) D2) ∧ Aside0 (Kd.R (Kd.int .i64) 2 wi w.heap.size (fun _ => True) (.slice Aa hh.length ca) hh) ∧ Aside0 (Below w.heap.size w wi))
          case atStart => exact ⟨0, D, by omega, by omega, rfl, ⟨by rw [List.take_zero, List.append_nil]; exact HT.out⟩, ⟨MA.out⟩, RA, BA⟩
          case round =>
            obtain ⟨j, D2, hj, hg2, rfl, HT2, HM2, RI, BI⟩ := hrel
            by_cases hlj : j < hh.length
            · have hljz : (j : Int) < (hh.length : Int) := by omega
              obtain ⟨ad2, e2, hcj⟩ := Kd.at_int (Kd.R_reads' RI.out).2.2 (j : Int) (by omega) hljz
              cases e2
              rw [ml_rd _ _ hlj, Int.toNat_natCast] at hcj
              have hx : ms.length + hh.length + rr.length ≤ 1000 ∧ 0 ≤ hh[j] ∧ hh[j] ≤ 1000000000 := by
                have h1 := OK.out
                rw [SP.out, ← RE.out] at h1
                refine ⟨?_, h1.2 _ (by simp [List.getElem_mem hlj])⟩
                have := h1.1
                simp only [List.length_append] at this
                omega
              generalize hz : hh[j] = z at hcj hx
              have Z := Aside0.mk hz
              clear hz
              have hcnt : (ms ++ hh.take j).count z ≤ 1000 := by
                refine Nat.le_trans List.count_le_length ?_
                rw [List.length_append, List.length_take]
                omega
              have hat0 := HT2.out.num z
              have hmu := HM2.out
              clear HM2
              go_wp2_with (first
                | (at_lookup; go_loud (refine wpList_lookup_own_int _ rfl _ _ 48 rfl 2 2 .i64 ml_law Try.underlying48 Try.underlying2 (ml_zero _) w2.heap.size _ _ rfl hmu _ _ rfl (Maps.keyOf_int_mk Try.underlying2 (WalkArith.wf_i64 (by omega))) ?_); intro c hat hwc)
                | (at_mapUpdate; refine wpList_mapUpdate_own _ rfl _ _ _ 48 rfl 2 2 ml_law Try.underlying48 _ w2.heap.size _ _ rfl hmu (by unfold maxLen; omega) _ _ _ rfl rfl (Maps.keyOf_int_mk Try.underlying2 (WalkArith.wf_i64 (by omega))) _ [] (plainElem_int Try.underlying2 (wrap64_wf _)) ?_; intro w1 hown1 hgrow1)
                | fail)
              have hce : c = ((ms ++ hh.take j).count z : Int) := by
                rw [hat0] at hat
                simp only [DataW.lit.injEq, Lit.int.injEq, true_and] at hat
                exact hat.symm
              have hwe : wrap64 (c + 1) = ((ms ++ hh.take j).count z : Int) + 1 := by
                rw [hce]
                exact Go.Proofs.YtfnlmabpmgocmaaXW.wid (by omega)
              have htk : ms ++ hh.take (j + 1) = (ms ++ hh.take j) ++ [z] := by rw [List.take_succ_eq_append_getElem hlj, Z.out, List.append_assoc]
              rw [hwe] at hown1
              go_roundg (hh.length - (j + 1))
              case measure => omega
              case rel => exact ⟨j + 1, _, by omega, by omega, by go_num, ⟨by rw [htk]; exact mlT_step HT2.out z⟩, ⟨hown1⟩, ⟨Kd.R_grown2 RI.out rfl hgrow1 (fun k e => by cases e; exact ml_map_ne RI.out hmu)⟩, ⟨BI.out.grown hgrow1 BI.out.size (fun k hk => by cases hk; exact HB2.out.size)⟩⟩
            · have hjj : j = hh.length := by omega
              subst hjj
              have hF : decide ((hh.length : Int) < (hh.length : Int)) = false := decide_eq_false (by omega)
              go_wp2_with (fail)
              go_roundg (l0.length - (kk + 1))
              case measure => omega
              case rel => exact ⟨kk + 1, ms ++ hh, rr, D2, by omega, by omega, by go_num, ⟨by rw [SP.out, ← RE.out, List.append_assoc]⟩, HR, ⟨by have := HT2.out; rw [List.take_length] at this; exact this⟩, ⟨by rw [List.length_append]; exact HM2.out⟩, BI⟩
        · have hjj : kk = l0.length := by omega
          subst hjj
          have hF : decide ((l0.length : Int) < (l0.length : Int)) = false := decide_eq_false (by omega)
          have hrest : rest = [] := by
            have := HA.out
            rw [List.drop_length] at this
            unfold ml_all at this
            exact (Option.some.inj this).symm
          subst hrest
          have hse : hs = ms := by rw [SP.out, List.append_nil]
          subst hse
          have hperm : ∀ ss : List Int, ss.Perm (intKeys D) → ss.mergeSort (fun x y => decide (x ≤ y)) = ml_keys hs := fun ss hp => by
            have h1 : CollectedI D (fun _ => false) (ml_dd hs) := ⟨ml_dd_nodup hs, fun x => by rw [ml_dd_mem, HT.out.has x]; simp⟩
            exact mergeSort_of_perm_i (hp.trans (h1.perm HM.out ml_law Try.underlying2 (fun _ => rfl)).symm)
          go_wp2_with (fail)
          refine (ml_keysC _ _).mono ?_
          rintro e w3 ⟨rfl, rfl⟩
          dsimp only
          have HMz := HM.out.size_le
          have hl1 := OK.out.1
          have HM3 := Aside0.mk (HM.out.alloc (Obj.cells #[.map (some w2.heap.size)] 48))
          have BW3 : Aside0 (Below w.heap.size w (wr.alloc (Obj.cells #[.map (some w2.heap.size)] 48))) := ⟨by repeat (first | exact BW.out | apply below_alloc | apply pw_below_drewN | apply below_drew1)⟩
          have hcm : (wr.alloc (Obj.cells #[.map (some w2.heap.size)] 48)).cell? ⟨wr.heap.size, 0, none⟩ = some (.map (some w2.heap.size)) := cell_one_new _ _ _ 0 _ rfl
          go_wp2_with (fail)
          refine (ml_sortedC _ _ _ D _ _ hcm HM3.out (by unfold maxLen; omega) (by omega)).mono ?_
          rintro e w4 ⟨vs, ss, rfl, hpm, hrow, hnil, hb_⟩
          have hln : ss.length = (ml_keys hs).length := by rw [← hperm ss hpm, List.length_mergeSort]
          rw [hperm ss hpm] at hrow
          have RK := Aside0.mk (Kd.R_lower (ml_R hrow hln (fun _ _ => trivial)) (show w.heap.size ≤ _ by simp only [World.alloc, Array.size_push]; exact Nat.le_succ_of_le BW.out.size))
          have BW4 : Aside0 (Below w.heap.size w w4) := ⟨below_then BW3.out BW3.out.size hb_⟩
          have HM4 := Aside0.mk (ml_map_below HM3.out hb_)
          clear hb_ hrow hnil hpm hln hperm hcm
          have hK : (ml_keys hs).length ≤ 1000 ∧ ∀ x ∈ ml_keys hs, 0 ≤ x ∧ x ≤ 1000000000 := ml_keys_b hs OK.out
          have hRW : Aside0 (ml_rows hs = (ml_keys hs).map fun x => [x, (hs.count x : Int)]) := ⟨rfl⟩
          have hNum := Aside0.mk HT.out.num
          generalize ml_keys hs = KS at RK hK hRW
          generalize hRSe : ml_rows hs = RS at hRW
          obtain ⟨Ak, ck, rfl⟩ := Kd.R_slice RK.out
          dsimp only
          go_wp2_with (fail)
          go_loopg [11, 47] KS.length (fun gg v11 v47 wi => ∃ j : Nat, j ≤ KS.length ∧ KS.length - j ≤ gg ∧ v47 = .int .i64 j ∧ Aside0 (Kd.S (Kd.slice 2 (Kd.int .i64)) 34 wi w.heap.size (fun k_ => some k_ ≠ (.slice Ak KS.length ck : Value).ownBlock) v11 (RS.take j)) ∧ Aside0 (Kd.R (Kd.int .i64) 2 wi w.heap.size (fun _ => True) (.slice Ak KS.length ck) KS) ∧ Aside0 (wi.ownsMap Try.prog 2 (plainElem Try.prog 2) w2.heap.size hs.length D) ∧ Aside0 (Below w.heap.size w wi))
          case atStart => exact ⟨0, by omega, by omega, rfl, ⟨Kd.S_nil _ _ _ _ _⟩, RK, HM4, BW4⟩
          case round =>
            obtain ⟨j, hj, hg3, rfl, HO_9, HO_5, HM, HB⟩ := hrel
            by_cases hlj : j < KS.length
            · have hljz : (j : Int) < (KS.length : Int) := by omega
              obtain ⟨ad3, e3, hcj⟩ := Kd.at_int (Kd.R_reads' HO_5.out).2.2 (j : Int) (by omega) hljz
              cases e3
              rw [ml_rd _ _ hlj, Int.toNat_natCast] at hcj
              have hx := hK.2 _ (List.getElem_mem hlj)
              have htk : RS.take (j + 1) = RS.take j ++ [[KS[j], (hs.count KS[j] : Int)]] := by
                rw [hRW.out, List.take_succ_eq_append_getElem (by rw [List.length_map]; exact hlj), List.getElem_map]
              have HTK := Aside0.mk htk
              clear htk
              have hat0 := hNum.out KS[j]
              generalize KS[j] = z at hcj hx HTK hat0
              have hmu := HM.out
              have hRl : (RS.take j).length ≤ 1000 := by rw [List.length_take]; omega
              have LMc := Aside0.mk hRl
              clear hRl
              go_wp2_with (first
                | (at_lookup; refine wpList_lookup_own_int _ rfl _ _ 48 rfl 2 2 .i64 ml_law Try.underlying48 Try.underlying2 (ml_zero _) w2.heap.size _ _ rfl hmu _ _ rfl (Maps.keyOf_int_mk Try.underlying2 (WalkArith.wf_i64 (by omega))) ?_; intro c hat hwc)
                | ((with_reducible refine gate_dst (N := 56) rfl ?_); refine Kd.R_lit (Kd.int .i64) _ 2 ?hg (N := 56) ?hd (xs := ([z, c] : List Int)) (inner := [.int .i64 z, .int .i64 c]) (ok := fun _ => True) (okp := fun _ => True) ?hr ?hp (fun _ hk => hk) trivial (Below.refl _ _) (Nat.le_refl _) (by simp) ?_; (case hd => rfl); (case hg => rfl); (case hr => first | (go_simp; done) | (go_simp; rfl)); (case hp => exact (Reps.one (show Kd.M (Kd.int .i64) _ _ _ z [.int .i64 z] from rfl) (Reps.one (show Kd.M (Kd.int .i64) _ _ _ c [.int .i64 c] from rfl) (Reps.none _ _)))); intro v176 w43 ho44 hb hg_ hnew_; clear hg_ hnew_; have n0_ := Aside0.mk (Kd.R_elder' (by (with_reducible repeat (first | apply Kd.R_alloc | apply Kd.R_drewN | apply Kd.R_drew)); exact HO_5.out) (Kd.R_base ho44) hb); have n1_ := Aside0.mk (Kd.S_elder' (by (with_reducible repeat (first | apply Kd.S_alloc | apply Kd.S_drewN | apply Kd.S_drew)); exact HO_9.out) (Kd.R_base ho44) hb); have n2_ := Aside0.mk (Kd.R_lower (Kd.R_new' ho44 (Kd.R_lt (by (with_reducible repeat (first | apply Kd.R_alloc | apply Kd.R_drewN | apply Kd.R_drew)); exact HO_5.out))) (below_size (by repeat (first | (with_reducible first | exact HB.out | apply below_alloc | apply pw_below_drewN | apply below_drew1) | exact HB.out)))); have n3_ := Aside0.mk (below_step (by repeat (first | (with_reducible first | exact HB.out | apply below_alloc | apply pw_below_drewN | apply below_drew1) | exact HB.out)) hb); have n4_ := Aside0.mk (ml_map_below hmu hb); clear HO_5; clear HO_9; clear HB; clear HM hmu; have HO_5 := n0_; have HO_9 := n1_; have HO177 := n2_; have HB := n3_; have HM := n4_; clear n0_ n1_ n2_ n3_ n4_; clear hb ho44; obtain ⟨Ao46, co46, eo46⟩ := Kd.R_slice HO177.out; subst eo46)
                | ((with_reducible refine gate_builtin (b := .append) (xs := #[.tmp 51, .tmp 57]) rfl ?_); at_builtin; refine Kd.S_append (Kd.slice 2 (Kd.int .i64)) (w0 := w) w.heap.size rfl (.tmp 51) (.tmp 57) 31 34 (.slice none 0 0) 24 rfl Try.underlying31 ml_info rfl (by decide) (by omega) u11 (RS.take j) [z, c] [.slice Ao46 2 co46] (fun k_ => some k_ ≠ (.slice (some ad3) KS.length ck : Value).ownBlock) (fun k_ => some k_ = (.slice Ao46 2 co46 : Value).ownBlock) rfl rfl ?aP (fun k_ hk_ => ((Kd.R_mono (ok' := fun k_ => ((fun k_ => some k_ ≠ (.slice (some ad3) KS.length ck : Value).ownBlock)) k_ ∧ some k_ ≠ (u11 : Value).ownBlock) (Kd.R_apart' (HO177.out) (Kd.S_typed HO_9.out) (by decide)) (fun k_ hk => ⟨hk.1.2, hk.2⟩))).1 k_ hk_.symm) ?aF ?aO ?aB ?aS ?aL ?_; (case aP => exact Kd.M_row (Kd.R_mono (Kd.R_tight rfl (Kd.R_mono (ok' := fun k_ => ((fun k_ => some k_ ≠ (.slice (some ad3) KS.length ck : Value).ownBlock)) k_ ∧ some k_ ≠ (u11 : Value).ownBlock) (Kd.R_apart' (HO177.out) (Kd.S_typed HO_9.out) (by decide)) (fun k_ hk => ⟨hk.1.2, hk.2⟩))) (fun _ h_ => h_))); (case aB => exact (by repeat (first | (with_reducible first | exact HB.out | apply below_alloc | apply pw_below_drewN | apply below_drew1) | exact HB.out))); (case aF => exact (fun k_ hk => Kd.fresh' (Kd.R_lt (by (with_reducible repeat (first | apply Kd.R_alloc | apply Kd.R_drewN | apply Kd.R_drew)); exact HO_5.out)) k_ hk)); (case aO => exact (by (with_reducible repeat (first | apply Kd.S_alloc | apply Kd.S_drewN | apply Kd.S_drew)); exact Kd.S_mono HO_9.out (fun k_ hk => ⟨hk.1, fun e_ => hk.2 e_⟩))); (case aS => exact (below_size (by repeat (first | (with_reducible first | exact HB.out | apply below_alloc | apply pw_below_drewN | apply below_drew1) | exact HB.out)))); (case aL => have := LMc.out; omega); intro v179 w45 ho hb hg hat9; have n0_ := Aside0.mk (Kd.R_over' (by (with_reducible repeat (first | apply Kd.R_alloc | apply Kd.R_drewN | apply Kd.R_drew)); exact HO_5.out) (Kd.S_typed (by (with_reducible repeat (first | apply Kd.S_alloc | apply Kd.S_drewN | apply Kd.S_drew)); exact HO_9.out)) (by decide) hg); have n1_ := Aside0.mk (hb); have n2_ := Aside0.mk (ho); have n3_ := Aside0.mk (ml_map_app HM.out (Kd.S_typed (by (with_reducible repeat (first | apply Kd.S_alloc | apply Kd.S_drewN | apply Kd.S_drew)); exact HO_9.out)) hg); clear HO_5; clear HB; clear HO_9; clear HO177; clear HM; have HO_5 := n0_; have HB := n1_; have HO180 := n2_; have HM := n3_; clear n0_ n1_ n2_ n3_; clear ho hb hg hat9)
                | fail)
              have hce : c = (hs.count z : Int) := by
                rw [hat0] at hat
                simp only [DataW.lit.injEq, Lit.int.injEq, true_and] at hat
                exact hat.symm
              go_roundg (KS.length - (j + 1))
              case measure => omega
              case rel => exact ⟨j + 1, by omega, by omega, by go_num, ⟨by rw [HTK.out, ← hce]; exact HO180.out⟩, ⟨Kd.R_mono HO_5.out (fun _ hk => trivial)⟩, HM, HB⟩
            · have hjj : j = KS.length := by omega
              subst hjj
              have hF : decide ((KS.length : Int) < (KS.length : Int)) = false := decide_eq_false (by omega)
              have htk : RS.take KS.length = RS := List.take_of_length_le (by rw [hRW.out, List.length_map]; exact Nat.le_refl _)
              have HTK := Aside0.mk htk
              clear htk
              go_wp2_with (fail)
              go_ret2
              exact ⟨_, rfl, by rw [hRSe, ← HTK.out]; exact Kd.S_mono HO_9.out (fun _ _ => trivial), HB.out⟩
    · rw [if_neg ok] at H
      exact absurd H (by simp)
  · rw [if_neg c] at H
    simp only [Option.some.injEq, Prod.mk.injEq] at H
    obtain ⟨rfl, rfl⟩ := H
    have c1 : (t2 == 0) = false := beq_eq_false_iff_ne.mpr c
    have c2 : (t2 != 0) = true := bne_iff_ne.mpr c
    go_enter Try.func9, Try.ntmps9
    go_wp2_with (fail)
    refine (impl_TicksFor.calls k A0 c0 l0 t1 t2 _ (Kd.C_below HR0.out (Below.refl w.heap.size w)) HC0.out TF.out).mono ?_
    rintro e w2 ⟨rfl, hb_⟩
    have HB2 : Aside0 (Below w.heap.size w w2) := ⟨below_then (Below.refl w.heap.size w) ((Below.refl w.heap.size w)).size hb_⟩
    clear hb_
    dsimp only
    go_wp2_with (fail)
    go_ret2
    exact ⟨_, rfl, Kd.S_nil _ _ _ _ _, HB2.out⟩

/-! ### impl_HitTicks: function 10 -/
def impl_HitTicks.f (k : Nat) (a0_0 : Int) (a0_1 : Int) (a1 : Int) : Option (List Int × Int) := (impl_ValidLayer.f a0_0 a0_1).bind fun t123 => (if t123 = true then ((impl_within.f a1 1 5040).bind fun t124 => (if t124 = true then ((impl_Layer_ticks.f k a0_0 a0_1).bind fun t125 => (if t125 = 0 then (none) else (if (Int.tmod a1 t125) = 0 then ((impl_Layer_hitTicks.f k a0_0 a0_1 a1).bind fun t126 => (some (t126, 0))) else (some (([] : List Int), 6))))) else (some (([] : List Int), 2)))) else (some (([] : List Int), 1)))
theorem impl_HitTicks.mono : ∀ a0 a1 a2 k, LeO (impl_HitTicks.f k a0 a1 a2) (impl_HitTicks.f (k + 1) a0 a1 a2) := by
  intro a0 a1 a2 k
  unfold impl_HitTicks.f
  repeat' first
      | (with_reducible exact impl_Layer_hitTicks.mono _ _ _ _)
      | (with_reducible exact impl_Layer_ticks.mono _ _ _)
      | (with_reducible exact LeO.refl _)
      | (with_reducible exact LeO.none _)
      | (with_reducible refine LeO.ite ?_ ?_)
      | (with_reducible refine LeO.bind ?_ (fun _ => ?_))
      | exact impl_Layer_hitTicks.mono _ _ _ _
      | exact impl_Layer_ticks.mono _ _ _
      | exact LeO.none _
      | refine LeO.ite ?_ ?_
      | refine LeO.bind ?_ (fun _ => ?_)
set_option maxHeartbeats 8000000 in
set_option maxRecDepth 100000 in
theorem impl_HitTicks.calls (k : Nat) (a0_0 : Int) (a0_1 : Int) (a1 : Int) (r1 : List Int) (r2 : Int) (w : World) (h : impl_HitTicks.f k a0_0 a0_1 a1 = some (r1, r2)) :
    Calls Try.prog 10 #[.agg #[.int .i64 a0_0, .int .i64 a0_1], .int .i64 a1] w fun e w' => ∃ v0_ : Value, e = .returned (.tuple #[v0_, .int .i64 r2]) ∧ Kd.R (Kd.int .i64) 2 w' w.heap.size (fun _ => True) v0_ r1 ∧ Below w.heap.size w w' := by
  have hu26 := Try.underlying26
  have HB := Aside0.mk (Below.refl w.heap.size w)
  have H : ((impl_ValidLayer.f a0_0 a0_1).bind fun t123 => (if t123 = true then ((impl_within.f a1 1 5040).bind fun t124 => (if t124 = true then ((impl_Layer_ticks.f k a0_0 a0_1).bind fun t125 => (if t125 = 0 then (none) else (if (Int.tmod a1 t125) = 0 then ((impl_Layer_hitTicks.f k a0_0 a0_1 a1).bind fun t126 => (some (t126, 0))) else (some (([] : List Int), 6))))) else (some (([] : List Int), 2)))) else (some (([] : List Int), 1)))) = some (r1, r2) := h
  clear h
  replace H := Option.bind_eq_some_iff.mp H
  obtain ⟨t123, A30, H⟩ := H
  replace H : (if t123 = true then ((impl_within.f a1 1 5040).bind fun t124 => (if t124 = true then ((impl_Layer_ticks.f k a0_0 a0_1).bind fun t125 => (if t125 = 0 then (none) else (if (Int.tmod a1 t125) = 0 then ((impl_Layer_hitTicks.f k a0_0 a0_1 a1).bind fun t126 => (some (t126, 0))) else (some (([] : List Int), 6))))) else (some (([] : List Int), 2)))) else (some (([] : List Int), 1))) = some (r1, r2) := H
  have A3 := Aside0.mk A30
  clear A30
  by_cases c4 : t123 = true
  · subst c4
    have H1 : ((impl_within.f a1 1 5040).bind fun t124 => (if t124 = true then ((impl_Layer_ticks.f k a0_0 a0_1).bind fun t125 => (if t125 = 0 then (none) else (if (Int.tmod a1 t125) = 0 then ((impl_Layer_hitTicks.f k a0_0 a0_1 a1).bind fun t126 => (some (t126, 0))) else (some (([] : List Int), 6))))) else (some (([] : List Int), 2)))) = some (r1, r2) := by rw [if_pos rfl] at H; exact H
    clear H
    have H := H1
    clear H1
    replace H := Option.bind_eq_some_iff.mp H
    obtain ⟨t124, A50, H⟩ := H
    replace H : (if t124 = true then ((impl_Layer_ticks.f k a0_0 a0_1).bind fun t125 => (if t125 = 0 then (none) else (if (Int.tmod a1 t125) = 0 then ((impl_Layer_hitTicks.f k a0_0 a0_1 a1).bind fun t126 => (some (t126, 0))) else (some (([] : List Int), 6))))) else (some (([] : List Int), 2))) = some (r1, r2) := H
    have A5 := Aside0.mk A50
    clear A50
    by_cases c6 : t124 = true
    · subst c6
      have H1 : ((impl_Layer_ticks.f k a0_0 a0_1).bind fun t125 => (if t125 = 0 then (none) else (if (Int.tmod a1 t125) = 0 then ((impl_Layer_hitTicks.f k a0_0 a0_1 a1).bind fun t126 => (some (t126, 0))) else (some (([] : List Int), 6))))) = some (r1, r2) := by rw [if_pos rfl] at H; exact H
      clear H
      have H := H1
      clear H1
      replace H := Option.bind_eq_some_iff.mp H
      obtain ⟨t125, A70, H⟩ := H
      replace H : (if t125 = 0 then (none) else (if (Int.tmod a1 t125) = 0 then ((impl_Layer_hitTicks.f k a0_0 a0_1 a1).bind fun t126 => (some (t126, 0))) else (some (([] : List Int), 6)))) = some (r1, r2) := H
      have A7 := Aside0.mk A70
      clear A70
      by_cases c8 : t125 = 0
      · rw [if_pos c8] at H
        exact absurd H (by simp)
      · rw [if_neg c8] at H
        have c8b0 : (t125 == 0) = false := beq_eq_false_iff_ne.mpr c8
        have c8b1 : (t125 != 0) = true := bne_iff_ne.mpr c8
        by_cases c9 : (Int.tmod a1 t125) = 0
        · rw [if_pos c9] at H
          have c9b0 : ((Int.tmod a1 t125) == 0) = true := beq_iff_eq.mpr c9
          have c9b1 : ((Int.tmod a1 t125) != 0) = false := bne_eq_false_iff_eq.mpr c9
          clear c9
          replace H := Option.bind_eq_some_iff.mp H
          obtain ⟨t126, A100, H⟩ := H
          replace H : (some (t126, 0)) = some (r1, r2) := H
          have A10 := Aside0.mk A100
          clear A100
          simp only [Option.some.injEq, Prod.mk.injEq] at H
          obtain ⟨rfl, rfl⟩ := H
          go_enter Try.func10, Try.ntmps10
          go_wp2_with (first | ((with_reducible refine gate_dst (N := 2) rfl ?_); refine box_event ?hg (N := 2) ?hd (cs := #[.int .i64 a0_0, .int .i64 a0_1]) (t := 26) ?hr ?_; (case hd => rfl); (case hg => rfl); (case hr => first | (go_simp; done) | (go_simp; rfl)); intro gb122 hg w11 hbox hb; have n0_ := Aside0.mk (below_step (by repeat (first | (with_reducible first | exact HB.out | apply below_alloc | apply pw_below_drewN | apply below_drew1) | exact HB.out)) hb); have n1_ := Aside0.mk (hbox); have n2_ := Aside0.mk ((by rw [hg]; exact (below_size (by repeat (first | (with_reducible first | exact HB.out | apply below_alloc | apply pw_below_drewN | apply below_drew1) | exact HB.out))) : w.heap.size ≤ gb122)); have n3_ := Aside0.mk ((by rw [hg]; exact (below_size (by repeat (first | (with_reducible first | exact HB.out | apply below_alloc | apply pw_below_drewN | apply below_drew1) | exact HB.out))) : w.heap.size ≤ gb122)); clear HB; have HB := n0_; have BK122 := n1_; have GW122 := n2_; have GE122 := n3_; clear n0_ n1_ n2_ n3_; clear hb hbox hg; have hcz12_0 : w11.cell? ⟨gb122, 0, none⟩ = some (.int .i64 a0_0) := (blk_cell BK122.out 0).trans rfl; have hcz12_1 : w11.cell? ⟨gb122, 1, none⟩ = some (.int .i64 a0_1) := (blk_cell BK122.out 1).trans rfl; have hfz12_0 := blk_frozen BK122.out 0; have hfz12_1 := blk_frozen BK122.out 1) | ((with_reducible refine gate_callee (f := 19) rfl ?_); refine goesL_ (some 8) rfl rfl Try.func19 (by kernel_rfl) rfl #[.agg #[.int .i64 a0_0, .int .i64 a0_1]] rfl (by (try simp only [List.map_toArray, List.map_cons, List.map_nil]); first | done | rfl | (simp only [List.length_drop, List.length_take]; rfl)) ?_; (with_reducible refine (impl_ValidLayer.calls a0_0 a0_1 true _ A3.out).mono ?_); rintro e w13 ⟨rfl, hb⟩; refine ⟨_, rfl, ?_⟩; have n0_ := Aside0.mk (blk_below (g := gb122) (o := .cells #[.int .i64 a0_0, .int .i64 a0_1] 26 (0, 0)) (by (with_reducible repeat (first | refine blk_drewN ?_ _ | refine blk_drew ?_ | refine blk_alloc ?_ _)); exact BK122.out) hb); have n1_ := Aside0.mk (below_step (by repeat (first | (with_reducible first | exact HB.out | apply below_alloc | apply pw_below_drewN | apply below_drew1 | refine below_set ?_ GE122.out) | exact HB.out)) hb); clear BK122; clear HB; have BK122 := n0_; have HB := n1_; clear n0_ n1_; (try clear hb); (try clear hb2); (try clear hk); (try clear hi)) | ((with_reducible refine gate_callee (f := 25) rfl ?_); refine goesL_ (some 12) rfl rfl Try.func25 (by kernel_rfl) rfl #[.int .i64 a1, .int .i64 1, .int .i64 5040] rfl (by (try simp only [List.map_toArray, List.map_cons, List.map_nil]); first | done | rfl | (simp only [List.length_drop, List.length_take]; rfl)) ?_; (with_reducible refine (impl_within.calls a1 1 5040 true _ A5.out).mono ?_); rintro e w' ⟨rfl, ⟨nd, rfl⟩⟩; refine ⟨_, rfl, ?_⟩; have hcz14_0 : w13.cell? ⟨gb122, 0, none⟩ = some (.int .i64 a0_0) := (blk_cell BK122.out 0).trans rfl; have hcz14_1 : w13.cell? ⟨gb122, 1, none⟩ = some (.int .i64 a0_1) := (blk_cell BK122.out 1).trans rfl; have hfz14_0 := blk_frozen BK122.out 0; have hfz14_1 := blk_frozen BK122.out 1) | ((with_reducible refine gate_callee (f := 26) rfl ?_); refine goesL_ (some 17) rfl rfl Try.func26 (by kernel_rfl) rfl #[.agg #[.int .i64 a0_0, .int .i64 a0_1]] rfl (by (try simp only [List.map_toArray, List.map_cons, List.map_nil]); first | done | rfl | (simp only [List.length_drop, List.length_take]; rfl)) ?_; (with_reducible refine (impl_Layer_ticks.calls k a0_0 a0_1 t125 _ A7.out).mono ?_); rintro e w15 ⟨rfl, hb⟩; refine ⟨_, rfl, ?_⟩; have n0_ := Aside0.mk (blk_below (g := gb122) (o := .cells #[.int .i64 a0_0, .int .i64 a0_1] 26 (0, 0)) (by (with_reducible repeat (first | refine blk_drewN ?_ _ | refine blk_drew ?_ | refine blk_alloc ?_ _)); exact BK122.out) hb); have n1_ := Aside0.mk (below_step (by repeat (first | (with_reducible first | exact HB.out | apply below_alloc | apply pw_below_drewN | apply below_drew1 | refine below_set ?_ GE122.out) | exact HB.out)) hb); clear BK122; clear HB; have BK122 := n0_; have HB := n1_; clear n0_ n1_; (try clear hb); (try clear hb2); (try clear hk); (try clear hi); have hcz16_0 : w15.cell? ⟨gb122, 0, none⟩ = some (.int .i64 a0_0) := (blk_cell BK122.out 0).trans rfl; have hcz16_1 : w15.cell? ⟨gb122, 1, none⟩ = some (.int .i64 a0_1) := (blk_cell BK122.out 1).trans rfl; have hfz16_0 := blk_frozen BK122.out 0; have hfz16_1 := blk_frozen BK122.out 1) | ((with_reducible refine gate_callee (f := 22) rfl ?_); refine goesL_ (some 22) rfl rfl Try.func22 (by kernel_rfl) rfl #[.agg #[.int .i64 a0_0, .int .i64 a0_1], .int .i64 a1] rfl (by (try simp only [List.map_toArray, List.map_cons, List.map_nil]); first | done | rfl | (simp only [List.length_drop, List.length_take]; rfl)) ?_; (with_reducible refine (impl_Layer_hitTicks.calls k a0_0 a0_1 a1 t126 _ A10.out).mono ?_); rintro e w17 ⟨v127, rfl, ho0, hb⟩; refine ⟨_, rfl, ?_⟩; have n0_ := Aside0.mk (Kd.R_lower ho0 (below_size (by repeat (first | (with_reducible first | exact HB.out | apply below_alloc | apply pw_below_drewN | apply below_drew1 | refine below_set ?_ GE122.out) | exact HB.out)))); have n1_ := Aside0.mk (blk_below (g := gb122) (o := .cells #[.int .i64 a0_0, .int .i64 a0_1] 26 (0, 0)) (by (with_reducible repeat (first | refine blk_drewN ?_ _ | refine blk_drew ?_ | refine blk_alloc ?_ _)); exact BK122.out) hb); have n2_ := Aside0.mk (below_step (by repeat (first | (with_reducible first | exact HB.out | apply below_alloc | apply pw_below_drewN | apply below_drew1 | refine below_set ?_ GE122.out) | exact HB.out)) hb); clear BK122; clear HB; have HO128 := n0_; have BK122 := n1_; have HB := n2_; clear n0_ n1_ n2_; (try clear hb); (try clear hb2); (try clear hk); (try clear hi); (try clear ho0)))
          go_ret2
          exact ⟨_, by first | rfl | (simp [errW_none, errW_some] <;> rfl) | (simp [*, errW_none, errW_some] <;> rfl), by (with_reducible repeat (first | apply Kd.R_alloc | apply Kd.R_drewN | apply Kd.R_drew)); exact HO128.out, by repeat (first | (with_reducible first | exact HB.out | apply below_alloc | apply pw_below_drewN | apply below_drew1 | refine below_set ?_ GE122.out) | exact HB.out)⟩
        · rw [if_neg c9] at H
          have c9b0 : ((Int.tmod a1 t125) == 0) = false := beq_eq_false_iff_ne.mpr c9
          have c9b1 : ((Int.tmod a1 t125) != 0) = true := bne_iff_ne.mpr c9
          simp only [Option.some.injEq, Prod.mk.injEq] at H
          obtain ⟨rfl, rfl⟩ := H
          go_enter Try.func10, Try.ntmps10
          go_wp2_with (first | ((with_reducible refine gate_dst (N := 2) rfl ?_); refine box_event ?hg (N := 2) ?hd (cs := #[.int .i64 a0_0, .int .i64 a0_1]) (t := 26) ?hr ?_; (case hd => rfl); (case hg => rfl); (case hr => first | (go_simp; done) | (go_simp; rfl)); intro gb122 hg w18 hbox hb; have n0_ := Aside0.mk (below_step (by repeat (first | (with_reducible first | exact HB.out | apply below_alloc | apply pw_below_drewN | apply below_drew1) | exact HB.out)) hb); have n1_ := Aside0.mk (hbox); have n2_ := Aside0.mk ((by rw [hg]; exact (below_size (by repeat (first | (with_reducible first | exact HB.out | apply below_alloc | apply pw_below_drewN | apply below_drew1) | exact HB.out))) : w.heap.size ≤ gb122)); have n3_ := Aside0.mk ((by rw [hg]; exact (below_size (by repeat (first | (with_reducible first | exact HB.out | apply below_alloc | apply pw_below_drewN | apply below_drew1) | exact HB.out))) : w.heap.size ≤ gb122)); clear HB; have HB := n0_; have BK122 := n1_; have GW122 := n2_; have GE122 := n3_; clear n0_ n1_ n2_ n3_; clear hb hbox hg; have hcz19_0 : w18.cell? ⟨gb122, 0, none⟩ = some (.int .i64 a0_0) := (blk_cell BK122.out 0).trans rfl; have hcz19_1 : w18.cell? ⟨gb122, 1, none⟩ = some (.int .i64 a0_1) := (blk_cell BK122.out 1).trans rfl; have hfz19_0 := blk_frozen BK122.out 0; have hfz19_1 := blk_frozen BK122.out 1) | ((with_reducible refine gate_callee (f := 19) rfl ?_); refine goesL_ (some 8) rfl rfl Try.func19 (by kernel_rfl) rfl #[.agg #[.int .i64 a0_0, .int .i64 a0_1]] rfl (by (try simp only [List.map_toArray, List.map_cons, List.map_nil]); first | done | rfl | (simp only [List.length_drop, List.length_take]; rfl)) ?_; (with_reducible refine (impl_ValidLayer.calls a0_0 a0_1 true _ A3.out).mono ?_); rintro e w20 ⟨rfl, hb⟩; refine ⟨_, rfl, ?_⟩; have n0_ := Aside0.mk (blk_below (g := gb122) (o := .cells #[.int .i64 a0_0, .int .i64 a0_1] 26 (0, 0)) (by (with_reducible repeat (first | refine blk_drewN ?_ _ | refine blk_drew ?_ | refine blk_alloc ?_ _)); exact BK122.out) hb); have n1_ := Aside0.mk (below_step (by repeat (first | (with_reducible first | exact HB.out | apply below_alloc | apply pw_below_drewN | apply below_drew1 | refine below_set ?_ GE122.out) | exact HB.out)) hb); clear BK122; clear HB; have BK122 := n0_; have HB := n1_; clear n0_ n1_; (try clear hb); (try clear hb2); (try clear hk); (try clear hi)) | ((with_reducible refine gate_callee (f := 25) rfl ?_); refine goesL_ (some 12) rfl rfl Try.func25 (by kernel_rfl) rfl #[.int .i64 a1, .int .i64 1, .int .i64 5040] rfl (by (try simp only [List.map_toArray, List.map_cons, List.map_nil]); first | done | rfl | (simp only [List.length_drop, List.length_take]; rfl)) ?_; (with_reducible refine (impl_within.calls a1 1 5040 true _ A5.out).mono ?_); rintro e w' ⟨rfl, ⟨nd, rfl⟩⟩; refine ⟨_, rfl, ?_⟩; have hcz21_0 : w20.cell? ⟨gb122, 0, none⟩ = some (.int .i64 a0_0) := (blk_cell BK122.out 0).trans rfl; have hcz21_1 : w20.cell? ⟨gb122, 1, none⟩ = some (.int .i64 a0_1) := (blk_cell BK122.out 1).trans rfl; have hfz21_0 := blk_frozen BK122.out 0; have hfz21_1 := blk_frozen BK122.out 1) | ((with_reducible refine gate_callee (f := 26) rfl ?_); refine goesL_ (some 17) rfl rfl Try.func26 (by kernel_rfl) rfl #[.agg #[.int .i64 a0_0, .int .i64 a0_1]] rfl (by (try simp only [List.map_toArray, List.map_cons, List.map_nil]); first | done | rfl | (simp only [List.length_drop, List.length_take]; rfl)) ?_; (with_reducible refine (impl_Layer_ticks.calls k a0_0 a0_1 t125 _ A7.out).mono ?_); rintro e w22 ⟨rfl, hb⟩; refine ⟨_, rfl, ?_⟩; have n0_ := Aside0.mk (blk_below (g := gb122) (o := .cells #[.int .i64 a0_0, .int .i64 a0_1] 26 (0, 0)) (by (with_reducible repeat (first | refine blk_drewN ?_ _ | refine blk_drew ?_ | refine blk_alloc ?_ _)); exact BK122.out) hb); have n1_ := Aside0.mk (below_step (by repeat (first | (with_reducible first | exact HB.out | apply below_alloc | apply pw_below_drewN | apply below_drew1 | refine below_set ?_ GE122.out) | exact HB.out)) hb); clear BK122; clear HB; have BK122 := n0_; have HB := n1_; clear n0_ n1_; (try clear hb); (try clear hb2); (try clear hk); (try clear hi)))
          go_ret2
          exact ⟨_, by first | rfl | (simp [errW_none, errW_some] <;> rfl) | (simp [*, errW_none, errW_some] <;> rfl), by first | exact Kd.R_nil _ _ _ _ _ | exact Kd.N_nil _ _ _ _ _ | exact Kd.V_nil _ _ _ _ _ | exact Kd.Q_nil _ _ _ _ _ | exact Kd.S_nil _ _ _ _ _, by repeat (first | (with_reducible first | exact HB.out | apply below_alloc | apply pw_below_drewN | apply below_drew1 | refine below_set ?_ GE122.out) | exact HB.out)⟩
    · replace c6 := Bool.eq_false_iff.mpr c6
      subst c6
      have H1 : (some (([] : List Int), 2)) = some (r1, r2) := by rw [if_neg (show ¬ (false = true) by decide)] at H; exact H
      clear H
      have H := H1
      clear H1
      simp only [Option.some.injEq, Prod.mk.injEq] at H
      obtain ⟨rfl, rfl⟩ := H
      go_enter Try.func10, Try.ntmps10
      go_wp2_with (first | ((with_reducible refine gate_dst (N := 2) rfl ?_); refine box_event ?hg (N := 2) ?hd (cs := #[.int .i64 a0_0, .int .i64 a0_1]) (t := 26) ?hr ?_; (case hd => rfl); (case hg => rfl); (case hr => first | (go_simp; done) | (go_simp; rfl)); intro gb122 hg w23 hbox hb; have n0_ := Aside0.mk (below_step (by repeat (first | (with_reducible first | exact HB.out | apply below_alloc | apply pw_below_drewN | apply below_drew1) | exact HB.out)) hb); have n1_ := Aside0.mk (hbox); have n2_ := Aside0.mk ((by rw [hg]; exact (below_size (by repeat (first | (with_reducible first | exact HB.out | apply below_alloc | apply pw_below_drewN | apply below_drew1) | exact HB.out))) : w.heap.size ≤ gb122)); have n3_ := Aside0.mk ((by rw [hg]; exact (below_size (by repeat (first | (with_reducible first | exact HB.out | apply below_alloc | apply pw_below_drewN | apply below_drew1) | exact HB.out))) : w.heap.size ≤ gb122)); clear HB; have HB := n0_; have BK122 := n1_; have GW122 := n2_; have GE122 := n3_; clear n0_ n1_ n2_ n3_; clear hb hbox hg; have hcz24_0 : w23.cell? ⟨gb122, 0, none⟩ = some (.int .i64 a0_0) := (blk_cell BK122.out 0).trans rfl; have hcz24_1 : w23.cell? ⟨gb122, 1, none⟩ = some (.int .i64 a0_1) := (blk_cell BK122.out 1).trans rfl; have hfz24_0 := blk_frozen BK122.out 0; have hfz24_1 := blk_frozen BK122.out 1) | ((with_reducible refine gate_callee (f := 19) rfl ?_); refine goesL_ (some 8) rfl rfl Try.func19 (by kernel_rfl) rfl #[.agg #[.int .i64 a0_0, .int .i64 a0_1]] rfl (by (try simp only [List.map_toArray, List.map_cons, List.map_nil]); first | done | rfl | (simp only [List.length_drop, List.length_take]; rfl)) ?_; (with_reducible refine (impl_ValidLayer.calls a0_0 a0_1 true _ A3.out).mono ?_); rintro e w25 ⟨rfl, hb⟩; refine ⟨_, rfl, ?_⟩; have n0_ := Aside0.mk (blk_below (g := gb122) (o := .cells #[.int .i64 a0_0, .int .i64 a0_1] 26 (0, 0)) (by (with_reducible repeat (first | refine blk_drewN ?_ _ | refine blk_drew ?_ | refine blk_alloc ?_ _)); exact BK122.out) hb); have n1_ := Aside0.mk (below_step (by repeat (first | (with_reducible first | exact HB.out | apply below_alloc | apply pw_below_drewN | apply below_drew1 | refine below_set ?_ GE122.out) | exact HB.out)) hb); clear BK122; clear HB; have BK122 := n0_; have HB := n1_; clear n0_ n1_; (try clear hb); (try clear hb2); (try clear hk); (try clear hi)) | ((with_reducible refine gate_callee (f := 25) rfl ?_); refine goesL_ (some 12) rfl rfl Try.func25 (by kernel_rfl) rfl #[.int .i64 a1, .int .i64 1, .int .i64 5040] rfl (by (try simp only [List.map_toArray, List.map_cons, List.map_nil]); first | done | rfl | (simp only [List.length_drop, List.length_take]; rfl)) ?_; (with_reducible refine (impl_within.calls a1 1 5040 false _ A5.out).mono ?_); rintro e w' ⟨rfl, ⟨nd, rfl⟩⟩; refine ⟨_, rfl, ?_⟩))
      go_ret2
      exact ⟨_, by first | rfl | (simp [errW_none, errW_some] <;> rfl) | (simp [*, errW_none, errW_some] <;> rfl), by first | exact Kd.R_nil _ _ _ _ _ | exact Kd.N_nil _ _ _ _ _ | exact Kd.V_nil _ _ _ _ _ | exact Kd.Q_nil _ _ _ _ _ | exact Kd.S_nil _ _ _ _ _, by repeat (first | (with_reducible first | exact HB.out | apply below_alloc | apply pw_below_drewN | apply below_drew1 | refine below_set ?_ GE122.out) | exact HB.out)⟩
  · replace c4 := Bool.eq_false_iff.mpr c4
    subst c4
    have H1 : (some (([] : List Int), 1)) = some (r1, r2) := by rw [if_neg (show ¬ (false = true) by decide)] at H; exact H
    clear H
    have H := H1
    clear H1
    simp only [Option.some.injEq, Prod.mk.injEq] at H
    obtain ⟨rfl, rfl⟩ := H
    go_enter Try.func10, Try.ntmps10
    go_wp2_with (first | ((with_reducible refine gate_dst (N := 2) rfl ?_); refine box_event ?hg (N := 2) ?hd (cs := #[.int .i64 a0_0, .int .i64 a0_1]) (t := 26) ?hr ?_; (case hd => rfl); (case hg => rfl); (case hr => first | (go_simp; done) | (go_simp; rfl)); intro gb122 hg w26 hbox hb; have n0_ := Aside0.mk (below_step (by repeat (first | (with_reducible first | exact HB.out | apply below_alloc | apply pw_below_drewN | apply below_drew1) | exact HB.out)) hb); have n1_ := Aside0.mk (hbox); have n2_ := Aside0.mk ((by rw [hg]; exact (below_size (by repeat (first | (with_reducible first | exact HB.out | apply below_alloc | apply pw_below_drewN | apply below_drew1) | exact HB.out))) : w.heap.size ≤ gb122)); have n3_ := Aside0.mk ((by rw [hg]; exact (below_size (by repeat (first | (with_reducible first | exact HB.out | apply below_alloc | apply pw_below_drewN | apply below_drew1) | exact HB.out))) : w.heap.size ≤ gb122)); clear HB; have HB := n0_; have BK122 := n1_; have GW122 := n2_; have GE122 := n3_; clear n0_ n1_ n2_ n3_; clear hb hbox hg; have hcz27_0 : w26.cell? ⟨gb122, 0, none⟩ = some (.int .i64 a0_0) := (blk_cell BK122.out 0).trans rfl; have hcz27_1 : w26.cell? ⟨gb122, 1, none⟩ = some (.int .i64 a0_1) := (blk_cell BK122.out 1).trans rfl; have hfz27_0 := blk_frozen BK122.out 0; have hfz27_1 := blk_frozen BK122.out 1) | ((with_reducible refine gate_callee (f := 19) rfl ?_); refine goesL_ (some 8) rfl rfl Try.func19 (by kernel_rfl) rfl #[.agg #[.int .i64 a0_0, .int .i64 a0_1]] rfl (by (try simp only [List.map_toArray, List.map_cons, List.map_nil]); first | done | rfl | (simp only [List.length_drop, List.length_take]; rfl)) ?_; (with_reducible refine (impl_ValidLayer.calls a0_0 a0_1 false _ A3.out).mono ?_); rintro e w28 ⟨rfl, hb⟩; refine ⟨_, rfl, ?_⟩; have n0_ := Aside0.mk (blk_below (g := gb122) (o := .cells #[.int .i64 a0_0, .int .i64 a0_1] 26 (0, 0)) (by (with_reducible repeat (first | refine blk_drewN ?_ _ | refine blk_drew ?_ | refine blk_alloc ?_ _)); exact BK122.out) hb); have n1_ := Aside0.mk (below_step (by repeat (first | (with_reducible first | exact HB.out | apply below_alloc | apply pw_below_drewN | apply below_drew1 | refine below_set ?_ GE122.out) | exact HB.out)) hb); clear BK122; clear HB; have BK122 := n0_; have HB := n1_; clear n0_ n1_; (try clear hb); (try clear hb2); (try clear hk); (try clear hi)))
    go_ret2
    exact ⟨_, by first | rfl | (simp [errW_none, errW_some] <;> rfl) | (simp [*, errW_none, errW_some] <;> rfl), by first | exact Kd.R_nil _ _ _ _ _ | exact Kd.N_nil _ _ _ _ _ | exact Kd.V_nil _ _ _ _ _ | exact Kd.Q_nil _ _ _ _ _ | exact Kd.S_nil _ _ _ _ _, by repeat (first | (with_reducible first | exact HB.out | apply below_alloc | apply pw_below_drewN | apply below_drew1 | refine below_set ?_ GE122.out) | exact HB.out)⟩

end Go.Proofs.Ytfnlmabpmgocmaa.PFnSpeeds
