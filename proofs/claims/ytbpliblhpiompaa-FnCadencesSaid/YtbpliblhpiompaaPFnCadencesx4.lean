-- written by xprint.py, a program of this repo over the kit's print; not trusted: Lean checks it
import Derived.Test.YtbpliblhpiompaaPFnCadencesx0
import Derived.Test.YtbpliblhpiompaaPFnCadencesx1
import Derived.Test.YtbpliblhpiompaaPFnCadencesx2
import Derived.Test.YtbpliblhpiompaaPFnCadencesx3
namespace Go.Proofs.Ytbpliblhpiompaa.PFnCadences
open Go.RowKit Go.Proofs.YtbpliblhpiompaaW.PrintWords Go.Proofs.YtbpliblhpiompaaW.PrintLast Go.Proofs.YtbpliblhpiompaaW.PrintMore
attribute [local go_sem] max2_int min2_int max_two min_two max_three min_three max_four min_four   -- for this text's walks alone
set_option linter.unusedVariables false
set_option linter.unusedSimpArgs false

/-! ### spec_l17Read: function 56, by hand -/
def lr_m (c : Int) : Nat → Int
  | 0 => -1
  | j + 1 => if bt (⟨#[45, 88, 43, 111]⟩ : ByteArray) (j : Int) = c then (j : Int) else lr_m c j
def lr_loop (k : Nat) (nm : ByteArray) (ws : List ByteArray) : Nat → Nat → List Int → List Int → Option (ByteArray × List Int × List Int × Bool)
  | 0, _, S, M => (spec_l17Ok.f k nm S M).bind fun r => if r.1 = true then some (nm, S, M, true) else some ((⟨#[]⟩ : ByteArray), [], [], false)
  | d + 1, i, S, M => if (rdOf ByteArray.empty ws (i : Int)).size < 2 then some ((⟨#[]⟩ : ByteArray), [], [], false) else if (rdOf ByteArray.empty ws (i : Int)).size < 1000000 then (spec_l01Number.f k ((rdOf ByteArray.empty ws (i : Int)).extract 0 ((rdOf ByteArray.empty ws (i : Int)).size - 1))).bind fun n => if n.2 = true then (if S.length < 1000000 ∧ M.length < 1000000 then lr_loop k nm ws d (i + 1) (S ++ [n.1]) (M ++ [lr_m (bt (rdOf ByteArray.empty ws (i : Int)) ((rdOf ByteArray.empty ws (i : Int)).size - 1 : Nat)) 4]) else none) else some ((⟨#[]⟩ : ByteArray), [], [], false) else none
def spec_l17Read.f (k : Nat) (s : ByteArray) : Option (ByteArray × List Int × List Int × Bool) := (spec_l01Split.f k s 32).bind fun ws => if 0 < ws.length ∧ ws.length < 1000000 then lr_loop k (rdOf ByteArray.empty ws 0) ws (ws.length - 1) 1 [] [] else none
theorem lr_loop.mono (k : Nat) (nm : ByteArray) (ws : List ByteArray) : ∀ d i S M, LeO (lr_loop k nm ws d i S M) (lr_loop (k + 1) nm ws d i S M)
  | 0, i, S, M => by
    unfold lr_loop
    exact LeO.bind (spec_l17Ok.mono _ _ _ _) (fun _ => LeO.refl _)
  | d + 1, i, S, M => by
    unfold lr_loop
    exact LeO.ite (LeO.refl _) (LeO.ite (LeO.bind (spec_l01Number.mono _ _) (fun _ => LeO.ite (LeO.ite (lr_loop.mono k nm ws d _ _ _) (LeO.refl _)) (LeO.refl _))) (LeO.refl _))
theorem spec_l17Read.mono : ∀ a0 k, LeO (spec_l17Read.f k a0) (spec_l17Read.f (k + 1) a0) := by
  intro a0 k
  unfold spec_l17Read.f
  exact LeO.bind (spec_l01Split.mono _ _ _) (fun _ => LeO.ite (lr_loop.mono _ _ _ _ _ _ _) (LeO.refl _))
theorem lr_info2 : (Try.prog.info? 2).map (fun i => (i.zero, i.size, i.bytes)) = some (some (.int .i64 0), 1, 8) := by kernel_rfl
def lrP (w w' : World) (e : Ending) (r1 : ByteArray) (r2 r3 : List Int) (r4 : Bool) : Prop := ∃ v1_ v2_ : Value, e = .returned (.tuple #[.agg #[.string r1, v1_, v2_], .bool r4]) ∧ Kd.R (Kd.int .i64) 2 w' w.heap.size (fun k_ => some k_ ≠ (v2_ : Value).ownBlock) v1_ r2 ∧ Kd.R (Kd.int .i64) 2 w' w.heap.size (fun k_ => some k_ ≠ (v1_ : Value).ownBlock) v2_ r3 ∧ Below w.heap.size w w'
theorem lr_res {fn : Func} {p u : Tmp} {ty : TypeId} (h : fn.results = #[.cell p ty, .tmp u]) (tmps : Array Value) (w : World) (g : Nat) (cs : Array Value)
    (hp : tmps.getD p undef = .pointer (some ⟨g, 0, none⟩)) (hl : (loadVar ty ⟨g, 0, none⟩).run Try.prog w = .ok (.agg cs) w) :
    (results fn tmps).run Try.prog w = .ok (.tuple #[.agg cs, tmps.getD u undef]) w := by
  have hp' : tmps[p]?.getD undef = .pointer (some ⟨g, 0, none⟩) := by simpa using hp
  simp [results, h, hp', asAddr, Sem.run_bind, Result.andThen, hl]
theorem lr_load {W : World} {g : Nat} {cs : Array Value} (hs : cs.size = 3) (hg : W.heap[g]? = some (.cells cs 26 (0, 0))) : (loadVar 26 ⟨g, 0, none⟩).run Try.prog W = .ok (.agg cs) W :=
  run_loadVar_row W g 26 26 cs (0, 0) _ hg Try.underlying26 rfl (by rw [hs]; kernel_rfl)
theorem lr_put3 {W : World} {g : Nat} {a b c x y z : Value} (h : W.heap[g]? = some (.cells #[a, b, c] 26 (0, 0))) : (((W.setCell ⟨g, 0, none⟩ x).setCell ⟨g, 1, none⟩ y).setCell ⟨g, 2, none⟩ z).heap[g]? = some (.cells #[x, y, z] 26 (0, 0)) := by
  refine blk_put (cs := #[x, y, c]) ?_ 2 _ rfl
  refine blk_put (cs := #[x, b, c]) ?_ 1 _ rfl
  refine blk_put (cs := #[a, b, c]) ?_ 0 _ rfl
  exact h
theorem lr_ret {a : Act} {W w : World} {g : Nat} {nm : ByteArray} {v1 v2 : Value} {S M : List Int} {r : Bool} (hp : a.tmps.getD 2 undef = .pointer (some ⟨g, 0, none⟩)) (hq : a.tmps.getD 3 undef = .bool r) (hd : a.defers = []) (hg : W.heap[g]? = some (.cells #[.string nm, v1, v2] 26 (0, 0)))
    (h1 : Kd.R (Kd.int .i64) 2 W w.heap.size (fun k_ => some k_ ≠ (v2 : Value).ownBlock) v1 S) (h2 : Kd.R (Kd.int .i64) 2 W w.heap.size (fun k_ => some k_ ≠ (v1 : Value).ownBlock) v2 M) (hB : Below w.heap.size w W) : bodyPost Try.prog Try.f56 (fun e w' => lrP w w' e nm S M r) .ret a W := by
  refine bodyPost_ret (v := .tuple #[.agg #[.string nm, v1, v2], .bool r]) ?_ hd ⟨v1, v2, rfl, h1, h2, hB⟩
  have := lr_res (fn := Try.f56) (p := 2) (u := 3) (ty := 26) rfl a.tmps W g #[.string nm, v1, v2] hp (lr_load rfl hg)
  rw [hq] at this
  exact this
theorem lr_push1 {w w1 : World} {g base : Nat} {a v1 v2 v3 : Value} {S M S' : List Int} (hg : w.heap[g]? = some (.cells #[a, v1, v2] 26 (0, 0))) (hS : Kd.R (Kd.int .i64) 2 w base (fun k_ => some k_ ≠ (v2 : Value).ownBlock) v1 S) (hM : Kd.R (Kd.int .i64) 2 w base (fun k_ => some k_ ≠ (v1 : Value).ownBlock) v2 M)
    (h1 : w.grownBy w1 v1.ownBlock) (hat : v3.ownBlock = v1.ownBlock ∨ ∃ b, v3.ownBlock = some b ∧ w.heap.size ≤ b) (hS' : Kd.R (Kd.int .i64) 2 w1 base (fun k_ => some k_ ≠ (v2 : Value).ownBlock) v3 S') : (w1.setCell ⟨g, 1, none⟩ v3).heap[g]? = some (.cells #[a, v3, v2] 26 (0, 0)) ∧ Kd.R (Kd.int .i64) 2 (w1.setCell ⟨g, 1, none⟩ v3) base (fun k_ => some k_ ≠ (v2 : Value).ownBlock) v3 S' ∧ Kd.R (Kd.int .i64) 2 (w1.setCell ⟨g, 1, none⟩ v3) base (fun k_ => some k_ ≠ (v3 : Value).ownBlock) v2 M := by
  have hg1 := blk_grown hg h1 (Kd.R_ne hS hg (by decide))
  exact ⟨blk_put hg1 1 _ rfl, Kd.R_set hS' hg1 (by decide) 1 v3, Kd.R_set (Kd.R_mono (Kd.R_after (ok := fun _ => True) (Kd.R_mono hM (fun _ hk => ⟨trivial, hk⟩)) h1 hat) (fun _ hk => hk.2)) hg1 (by decide) 1 v3⟩
theorem lr_push2 {w w1 : World} {g base : Nat} {a v1 v2 v3 : Value} {S M M' : List Int} (hg : w.heap[g]? = some (.cells #[a, v1, v2] 26 (0, 0))) (hS : Kd.R (Kd.int .i64) 2 w base (fun k_ => some k_ ≠ (v2 : Value).ownBlock) v1 S) (hM : Kd.R (Kd.int .i64) 2 w base (fun k_ => some k_ ≠ (v1 : Value).ownBlock) v2 M)
    (h1 : w.grownBy w1 v2.ownBlock) (hat : v3.ownBlock = v2.ownBlock ∨ ∃ b, v3.ownBlock = some b ∧ w.heap.size ≤ b) (hM' : Kd.R (Kd.int .i64) 2 w1 base (fun k_ => some k_ ≠ (v1 : Value).ownBlock) v3 M') : (w1.setCell ⟨g, 2, none⟩ v3).heap[g]? = some (.cells #[a, v1, v3] 26 (0, 0)) ∧ Kd.R (Kd.int .i64) 2 (w1.setCell ⟨g, 2, none⟩ v3) base (fun k_ => some k_ ≠ (v3 : Value).ownBlock) v1 S ∧ Kd.R (Kd.int .i64) 2 (w1.setCell ⟨g, 2, none⟩ v3) base (fun k_ => some k_ ≠ (v1 : Value).ownBlock) v3 M' := by
  have hg1 := blk_grown hg h1 (Kd.R_ne hM hg (by decide))
  exact ⟨blk_put hg1 2 _ rfl, Kd.R_set (Kd.R_mono (Kd.R_after (ok := fun _ => True) (Kd.R_mono hS (fun _ hk => ⟨trivial, hk⟩)) h1 hat) (fun _ hk => hk.2)) hg1 (by decide) 2 v3, Kd.R_set hM' hg1 (by decide) 2 v3⟩
theorem lr_set3 {W : World} {g base : Nat} {ok : Nat → Prop} {v x y z : Value} {cs : Array Value} {S : List Int} (h : Kd.R (Kd.int .i64) 2 W base ok v S) (hg : W.heap[g]? = some (.cells cs 26 (0, 0))) : Kd.R (Kd.int .i64) 2 (((W.setCell ⟨g, 0, none⟩ x).setCell ⟨g, 1, none⟩ y).setCell ⟨g, 2, none⟩ z) base ok v S := by
  have key : ∀ k, v.ownBlock = some k → k ≠ g := by
    intro k hk e
    subst e
    exact Kd.R_ne h hg (by decide) hk.symm
  have h' : Kd.R (Kd.int .i64) 2 W base (fun k => ok k ∧ k ≠ g) v S := ⟨fun k hk => ⟨h.1 k hk, key k hk⟩, h.2.imp_ (fun _ _ hp => hp)⟩
  exact Kd.R_mono (Kd.R_far (Kd.R_far (Kd.R_far h' (p := ⟨g, 0, none⟩) (fun _ hk => hk.2) x) (p := ⟨g, 1, none⟩) (fun _ hk => hk.2) y) (p := ⟨g, 2, none⟩) (fun _ hk => hk.2) z) (fun _ hk => hk.1)
set_option maxHeartbeats 8000000 in
set_option maxRecDepth 100000 in
theorem spec_l17Read.calls (k : Nat) (a0 : ByteArray) (r1 : ByteArray) (r2 r3 : List Int) (r4 : Bool) (w : World) (h : spec_l17Read.f k a0 = some (r1, r2, r3, r4)) :
    Calls Try.prog 56 #[.string a0] w fun e w' => ∃ v1_ v2_ : Value, e = .returned (.tuple #[.agg #[.string r1, v1_, v2_], .bool r4]) ∧ Kd.R (Kd.int .i64) 2 w' w.heap.size (fun k_ => some k_ ≠ (v2_ : Value).ownBlock) v1_ r2 ∧ Kd.R (Kd.int .i64) 2 w' w.heap.size (fun k_ => some k_ ≠ (v1_ : Value).ownBlock) v2_ r3 ∧ Below w.heap.size w w' := by
  show Calls _ _ _ w fun e w' => lrP w w' e r1 r2 r3 r4
  unfold spec_l17Read.f at h
  obtain ⟨ws, hsp, H⟩ := Option.bind_eq_some_iff.mp h
  clear h
  have V0 := Aside0.mk hsp
  clear hsp
  have HF := Aside0.mk H
  clear H
  have hu26 := Try.underlying26
  go_enter Try.func56, Try.ntmps56
  go_wp2_with (first | ((with_reducible refine gate_dst (N := 2) rfl ?_); refine box_event ?hg (N := 2) ?hd (cs := #[.string (⟨#[]⟩ : ByteArray), .slice none 0 0, .slice none 0 0]) (t := 26) ?hr ?_; (case hd => rfl); (case hg => rfl); (case hr => first | (go_simp; done) | (go_simp; rfl)); intro gr hg wA hbox hb; have HBA := Aside0.mk hb; have GR := Aside0.mk hg; have BKR := Aside0.mk hbox; clear hb hg hbox) | fail)
  refine (spec_l01Split.calls k a0 32 ws _ V0.out).mono ?_
  rintro e w2 ⟨vw, rfl, hR, hb_⟩
  have n0_ := Aside0.mk (blk_below BKR.out hb_)
  have HB2 := Aside0.mk (below_step HBA.out hb_)
  clear BKR HBA
  have BKR := n0_
  clear n0_ hb_
  obtain ⟨Aw, cw, e0⟩ := Kd.R_slice hR
  subst e0
  obtain ⟨_, hcw, hCw⟩ := Kd.R_reads' hR
  have CW := Aside0.mk hCw
  clear hR hCw
  dsimp only
  have H := HF.out
  clear HF
  by_cases hw : 0 < ws.length ∧ ws.length < 1000000
  · rw [if_pos hw] at H
    have HF := Aside0.mk H
    clear H
    obtain ⟨hw0, hw1⟩ := hw
    have hwz : (0 : Int) < (ws.length : Int) := by omega
    obtain ⟨ad, e1, hx⟩ := Kd.at_string CW.out 0 (Int.le_refl _) hwz
    subst e1
    have hx : w2.cell? ad = some (.string (rdOf ByteArray.empty ws 0)) := (show ad.add (0 : Int).toNat = ad by simp [Addr.add]) ▸ hx
    generalize hnm : rdOf ByteArray.empty ws 0 = nm at hx HF
    go_upto_region 3 with (first | ((with_reducible refine gate_dst (N := 5) rfl ?_); refine box_event ?hg (N := 5) ?hd (cs := #[.string (⟨#[]⟩ : ByteArray), .slice none 0 0, .slice none 0 0]) (t := 26) ?hr ?_; (case hd => rfl); (case hg => rfl); (case hr => first | (go_simp; done) | (go_simp; rfl)); intro gt hg wB hbox hb; have BW := Aside0.mk hb; have GT := Aside0.mk hg; have BKT := Aside0.mk hbox; clear hb hg hbox; have hc0_ : wB.cell? ⟨gt, 0, none⟩ = some (.string (⟨#[]⟩ : ByteArray)) := (blk_cell BKT.out 0).trans rfl; have hc1_ : wB.cell? ⟨gt, 1, none⟩ = some (.slice none 0 0) := (blk_cell BKT.out 1).trans rfl; have hc2_ : wB.cell? ⟨gt, 2, none⟩ = some (.slice none 0 0) := (blk_cell BKT.out 2).trans rfl; have hf0_ := blk_frozen BKT.out 0; have hf1_ := blk_frozen BKT.out 1; have hf2_ := blk_frozen BKT.out 2) | fail)
    have hX := lr_put3 (x := .string nm) (y := .slice none 0 0) (z := .slice none 0 0) BKT.out
    have hGE : w2.heap.size ≤ gt := by rw [GT.out]; exact Nat.le_refl _
    have hXB : Below w2.heap.size w2 (((wB.setCell ⟨gt, 0, none⟩ (.string nm)).setCell ⟨gt, 1, none⟩ (.slice none 0 0)).setCell ⟨gt, 2, none⟩ (.slice none 0 0)) := below_set (below_set (below_set BW.out hGE) hGE) hGE
    clear hc0_ hc1_ hc2_ hf0_ hf1_ hf2_ BKT BW GT hx
    generalize (((wB.setCell ⟨gt, 0, none⟩ (.string nm)).setCell ⟨gt, 1, none⟩ (.slice none 0 0)).setCell ⟨gt, 2, none⟩ (.slice none 0 0)) = wC at hX hXB ⊢
    have HG := Aside0.mk hX
    have HB := Aside0.mk hXB
    have GE := Aside0.mk hGE
    clear hX hXB hGE hnm
    go_wp2_with (fail)
    refine (spec_l17Signs.calls (⟨#[45, 88, 43, 111]⟩ : ByteArray) _ rfl).mono ?_
    rintro e w5 ⟨rfl, ⟨nd5, rfl⟩⟩
    dsimp only
    go_wp2_with (fail)
    have HF2 := HF.out
    go_loopg [7] ws.length (fun gg v7 wr => ∃ (ii : Nat) (S M : List Int) (v1 v2 : Value), 1 ≤ ii ∧ ii ≤ ws.length ∧ ws.length - ii ≤ gg ∧ v7 = .int .i64 ii ∧ Aside0 (lr_loop k nm ws (ws.length - ii) ii S M = some (r1, r2, r3, r4)) ∧ Aside0 (wr.heap[gt]? = some (.cells #[.string nm, v1, v2] 26 (0, 0))) ∧ Aside0 (Kd.R (Kd.int .i64) 2 wr w2.heap.size (fun k_ => some k_ ≠ (v2 : Value).ownBlock) v1 S) ∧ Aside0 (Kd.R (Kd.int .i64) 2 wr w2.heap.size (fun k_ => some k_ ≠ (v1 : Value).ownBlock) v2 M) ∧ Aside0 (Below w2.heap.size w2 wr))
    case atStart => exact ⟨1, [], [], .slice none 0 0, .slice none 0 0, by omega, by omega, by omega, rfl, ⟨HF2⟩, HG, ⟨Kd.R_nil _ _ _ _ _⟩, ⟨Kd.R_nil _ _ _ _ _⟩, ⟨pw_below_drewN HB.out _⟩⟩
    case round =>
      clear HF2 HF HG HB
      obtain ⟨ii, S, M, v1, v2, hi1, hii, hgg, rfl, HF, HG, HS, HM, HB⟩ := hrel
      have BKR2 := Aside0.mk (blk_below BKR.out HB.out)
      by_cases hlt : ii < ws.length
      · have hltz : (ii : Int) < (ws.length : Int) := by omega
        obtain ⟨d, hd⟩ : ∃ d, ws.length - ii = d + 1 := ⟨ws.length - ii - 1, by omega⟩
        have H := HF.out
        rw [hd] at H
        unfold lr_loop at H
        obtain ⟨ad', e1, hx⟩ := Kd.at_string CW.out (ii : Int) (by omega) hltz
        cases e1
        replace hx := (HB.out.cell (World.block_lt_of_cell? w2 _ hx)).trans hx
        rw [Int.toNat_natCast] at hx
        generalize hxx : rdOf ByteArray.empty ws (ii : Int) = x at H hx
        have XE := Aside0.mk hxx
        clear hxx
        by_cases c1 : x.size < 2
        · rw [if_pos c1] at H
          simp only [Option.some.injEq, Prod.mk.injEq] at H
          obtain ⟨rfl, rfl, rfl, rfl⟩ := H
          have c1z : ((x.size : Int) < 2) := by omega
          have hz0_ : wr.cell? ⟨gr, 0, none⟩ = some (.string (⟨#[]⟩ : ByteArray)) := (blk_cell BKR2.out 0).trans rfl
          have hz1_ : wr.cell? ⟨gr, 1, none⟩ = some (.slice none 0 0) := (blk_cell BKR2.out 1).trans rfl
          have hz2_ : wr.cell? ⟨gr, 2, none⟩ = some (.slice none 0 0) := (blk_cell BKR2.out 2).trans rfl
          have hf0_ := blk_frozen BKR2.out 0
          have hf1_ := blk_frozen BKR2.out 1
          have hf2_ := blk_frozen BKR2.out 2
          go_wp2_with (fail)
          refine lr_ret ?hp ?hq rfl (lr_put3 BKR2.out) (Kd.R_nil _ _ _ _ _) (Kd.R_nil _ _ _ _ _) ?hb
          case hp => rfl
          case hq => rfl
          case hb =>
            have hgr : w.heap.size ≤ gr := by rw [GR.out]; exact Nat.le_refl _
            exact below_set (below_set (below_set (below_then HB2.out HB2.out.size HB.out) hgr) hgr) hgr
        · rw [if_neg c1] at H
          by_cases c2 : x.size < 1000000
          · rw [if_pos c2] at H
            obtain ⟨⟨n, ok⟩, hn, H⟩ := Option.bind_eq_some_iff.mp H
            have VN := Aside0.mk hn
            have HF := Aside0.mk H
            clear hn H
            have c1z : ¬ ((x.size : Int) < 2) := by omega
            go_wp2_with (fail)
            refine (spec_l01Number.calls k (x.extract 0 (x.size - 1)) n ok _ VN.out).mono ?_
            rintro e w6 ⟨rfl, ⟨nd6, rfl⟩⟩
            dsimp only
            cases ok with
            | false =>
              have H := HF.out
              rw [if_neg (by simp)] at H
              simp only [Option.some.injEq, Prod.mk.injEq] at H
              obtain ⟨rfl, rfl, rfl, rfl⟩ := H
              have hz0_ : (wr.drewN nd6).cell? ⟨gr, 0, none⟩ = some (.string (⟨#[]⟩ : ByteArray)) := (blk_cell BKR2.out 0).trans rfl
              have hz1_ : (wr.drewN nd6).cell? ⟨gr, 1, none⟩ = some (.slice none 0 0) := (blk_cell BKR2.out 1).trans rfl
              have hz2_ : (wr.drewN nd6).cell? ⟨gr, 2, none⟩ = some (.slice none 0 0) := (blk_cell BKR2.out 2).trans rfl
              have hf0_ : (wr.drewN nd6).frozen? ⟨gr, 0, none⟩ = false := blk_frozen BKR2.out 0
              have hf1_ : (wr.drewN nd6).frozen? ⟨gr, 1, none⟩ = false := blk_frozen BKR2.out 1
              have hf2_ : (wr.drewN nd6).frozen? ⟨gr, 2, none⟩ = false := blk_frozen BKR2.out 2
              go_wp2_with (fail)
              refine lr_ret ?hp ?hq rfl (lr_put3 (blk_drewN BKR2.out nd6)) (Kd.R_nil _ _ _ _ _) (Kd.R_nil _ _ _ _ _) ?hb
              case hp => rfl
              case hq => rfl
              case hb =>
                have hgr : w.heap.size ≤ gr := by rw [GR.out]; exact Nat.le_refl _
                exact below_set (below_set (below_set (pw_below_drewN (below_then HB2.out HB2.out.size HB.out) nd6) hgr) hgr) hgr
            | true =>
              have H := HF.out
              rw [if_pos rfl] at H
              by_cases hSM : S.length < 1000000 ∧ M.length < 1000000
              · rw [if_pos hSM] at H
                have HF' := Aside0.mk H
                clear H HF
                have hla0 : (0 : Int) ≤ (x.size : Int) - 1 := by omega
                have hla1 : (x.size : Int) - 1 < (x.size : Int) := by omega
                have hcc0 : bt x ((x.size - 1 : Nat) : Int) = bt x ((x.size : Int) - 1) := by rw [show ((x.size - 1 : Nat) : Int) = (x.size : Int) - 1 by omega]
                rw [hcc0] at HF'
                clear hcc0
                generalize (x.size : Int) - 1 = la at hla0 hla1 HF' ⊢
                generalize hcc : bt x la = c at HF'
                have CC := Aside0.mk hcc
                clear hcc
                go_wp2_with (fail)
                go_loopg [11, 12] 4 (fun gg2 v11 v12 wi => ∃ (j : Nat), j ≤ 4 ∧ 4 - j ≤ gg2 ∧ v11 = .int .i64 (lr_m c j) ∧ v12 = .int .i64 j ∧ Aside0 (wi.heap[gt]? = some (.cells #[.string nm, v1, v2] 26 (0, 0))) ∧ Aside0 (Kd.R (Kd.int .i64) 2 wi w2.heap.size (fun k_ => some k_ ≠ (v2 : Value).ownBlock) v1 S) ∧ Aside0 (Kd.R (Kd.int .i64) 2 wi w2.heap.size (fun k_ => some k_ ≠ (v1 : Value).ownBlock) v2 M) ∧ Aside0 (Below w2.heap.size w2 wi))
                case atStart => exact ⟨0, by omega, by omega, rfl, rfl, HG, HS, HM, ⟨pw_below_drewN HB.out _⟩⟩
                case round =>
                  clear HG HS HM HB hx BKR2
                  obtain ⟨j, hj4, hg2, rfl, rfl, HG, HS, HM, HB⟩ := hrel
                  by_cases hj : j < 4
                  · have hjz : (j : Int) < 4 := by omega
                    obtain ⟨ad', e1, hx⟩ := Kd.at_string CW.out (ii : Int) (by omega) hltz
                    cases e1
                    replace hx := (HB.out.cell (World.block_lt_of_cell? w2 _ hx)).trans hx
                    rw [Int.toNat_natCast, XE.out] at hx
                    have hj0 : (0 : Int) ≤ (j : Int) := by omega
                    have hlm : lr_m c (j + 1) = if bt (⟨#[45, 88, 43, 111]⟩ : ByteArray) (j : Int) = c then (j : Int) else lr_m c j := rfl
                    have LM := Aside0.mk hlm
                    have hce : bt x la = c := CC.out
                    clear hlm
                    go_wp2_with (fail)
                    go_region
                    go_wp2
                    all_goals rename_i hcmp
                    all_goals
                      have e1 := bt_at x la (show la.toNat < x.size by omega)
                      have e2 := bt_at (⟨#[45, 88, 43, 111]⟩ : ByteArray) (j : Int) (show (j : Int).toNat < 4 by omega)
                      simp only [Int.toNat_natCast] at e2
                      rw [e1, e2, hce] at hcmp
                    · have hbc := eq_of_beq hcmp
                      go_roundg (4 - (j + 1))
                      case measure => omega
                      case rel => exact ⟨j + 1, by omega, by omega, by rw [LM.out, if_pos hbc], by go_num, HG, HS, HM, ⟨HB.out.drew⟩⟩
                    · have hbc := ne_of_beq_false hcmp
                      go_roundg (4 - (j + 1))
                      case measure => omega
                      case rel => exact ⟨j + 1, by omega, by omega, by rw [LM.out, if_neg hbc], by go_num, HG, HS, HM, ⟨HB.out.drew⟩⟩
                  · have hj4' : j = 4 := by omega
                    subst hj4'
                    generalize lr_m c 4 = mk at HF' ⊢
                    clear CC XE
                    obtain ⟨A1, c1, e1⟩ := Kd.R_slice HS.out
                    subst e1
                    obtain ⟨A2, c2, e2⟩ := Kd.R_slice HM.out
                    subst e2
                    have hcz : wr.cell? ⟨gt, 1, none⟩ = some (.slice A1 S.length c1) := (blk_cell HG.out 1).trans rfl
                    have hfz := blk_frozen HG.out 1
                    have hcA : ∀ o : Obj, (wr.alloc o).cell? ⟨gt, 1, none⟩ = some (.slice A1 S.length c1) := fun o => (blk_cell (blk_alloc HG.out o) 1).trans rfl
                    go_upto_region 20 with (first | (go_loud ((with_reducible refine gate_builtin (b := .append) (xs := #[.tmp 70, .tmp 72]) rfl ?_); at_builtin; refine Kd.R_append (Kd.int .i64) (w0 := w2) w2.heap.size rfl (.tmp 70) (.tmp 72) 24 2 (.int .i64 0) 8 rfl Try.underlying24 lr_info2 rfl (by decide) (by omega) (.slice A1 S.length c1) S n [.int .i64 n] (fun k_ => some k_ ≠ (Value.slice A2 M.length c2 : Value).ownBlock) (fun _ => False) rfl rfl ?aP (fun _ hk => hk.elim) ?aF ?aO ?aB ?aS ?aL ?_; (case aP => exact rfl); (case aB => exact HB.out); (case aF => exact (fun k hk e => by have := Kd.R_lt HM.out k e.symm; omega)); (case aO => exact HS.out); (case aS => exact HB.out.size); (case aL => omega); intro vS wS ho hb hg hat; obtain ⟨A3, c3, e3_⟩ := Kd.R_slice ho; rw [List.length_append, List.length_singleton] at e3_; subst e3_; have AO := Aside0.mk ho; have AB := Aside0.mk hb; have AG := Aside0.mk hg; have AT := Aside0.mk hat; have hcz2 : wS.cell? ⟨gt, 1, none⟩ = some (.slice A1 S.length c1) := (blk_cell (blk_grown HG.out hg (Kd.R_ne HS.out HG.out (by decide))) 1).trans rfl; have hfz2 := blk_frozen (blk_grown HG.out hg (Kd.R_ne HS.out HG.out (by decide))) 1; clear ho hb hg hat)) | fail)
                    obtain ⟨F1, F2, F3⟩ := lr_push1 HG.out HS.out HM.out AG.out AT.out AO.out
                    have F5 := below_set (j := 1) (v := (.slice A3 (S.length + 1) c3)) AB.out GE.out
                    clear HG HS HM HB hcz hfz hcA hcz2 hfz2 AO AB AG AT
                    generalize (wS.setCell ⟨gt, 1, none⟩ (.slice A3 (S.length + 1) c3)) = wT at F1 F2 F3 F5 ⊢
                    have HG := Aside0.mk F1
                    have HS := Aside0.mk F2
                    have HM := Aside0.mk F3
                    have HB := Aside0.mk F5
                    clear F1 F2 F3 F5
                    generalize hvS : Value.slice A3 (S.length + 1) c3 = vS at HG HS HM
                    clear hvS
                    have hcz : wT.cell? ⟨gt, 2, none⟩ = some (.slice A2 M.length c2) := (blk_cell HG.out 2).trans rfl
                    have hfz := blk_frozen HG.out 2
                    have hcA : ∀ o : Obj, (wT.alloc o).cell? ⟨gt, 2, none⟩ = some (.slice A2 M.length c2) := fun o => (blk_cell (blk_alloc HG.out o) 2).trans rfl
                    go_upto_region 6 with (first | (go_loud ((with_reducible refine gate_builtin (b := .append) (xs := #[.tmp 76, .tmp 78]) rfl ?_); at_builtin; refine Kd.R_append (Kd.int .i64) (w0 := w2) w2.heap.size rfl (.tmp 76) (.tmp 78) 24 2 (.int .i64 0) 8 rfl Try.underlying24 lr_info2 rfl (by decide) (by omega) (.slice A2 M.length c2) M mk [.int .i64 mk] (fun k_ => some k_ ≠ (vS : Value).ownBlock) (fun _ => False) rfl rfl ?aP (fun _ hk => hk.elim) ?aF ?aO ?aB ?aS ?aL ?_; (case aP => exact rfl); (case aB => exact HB.out); (case aF => exact (fun k hk e => by have := Kd.R_lt HS.out k e.symm; omega)); (case aO => exact HM.out); (case aS => exact HB.out.size); (case aL => omega); intro vM wM ho hb hg hat; obtain ⟨A3, c3, e3_⟩ := Kd.R_slice ho; rw [List.length_append, List.length_singleton] at e3_; subst e3_; have AO := Aside0.mk ho; have AB := Aside0.mk hb; have AG := Aside0.mk hg; have AT := Aside0.mk hat; have hcz2 : wM.cell? ⟨gt, 2, none⟩ = some (.slice A2 M.length c2) := (blk_cell (blk_grown HG.out hg (Kd.R_ne HM.out HG.out (by decide))) 2).trans rfl; have hfz2 := blk_frozen (blk_grown HG.out hg (Kd.R_ne HM.out HG.out (by decide))) 2; clear ho hb hg hat)) | fail)
                    obtain ⟨F1, F2, F3⟩ := lr_push2 HG.out HS.out HM.out AG.out AT.out AO.out
                    have F5 := below_set (j := 2) (v := (.slice A3 (M.length + 1) c3)) AB.out GE.out
                    clear HG HS HM HB hcz hfz hcA hcz2 hfz2 AO AB AG AT
                    generalize (wM.setCell ⟨gt, 2, none⟩ (.slice A3 (M.length + 1) c3)) = wV at F1 F2 F3 F5 ⊢
                    go_wp2_with (fail)
                    go_roundg (ws.length - (ii + 1))
                    case measure => omega
                    case rel => exact ⟨ii + 1, S ++ [n], M ++ [mk], _, _, by omega, by omega, by omega, by go_num, ⟨by rw [show ws.length - (ii + 1) = d by omega]; exact HF'.out⟩, ⟨F1⟩, ⟨F2⟩, ⟨F3⟩, ⟨F5⟩⟩
              · rw [if_neg hSM] at H
                exact absurd H (by simp)
          · rw [if_neg c2] at H
            exact absurd H (by simp)
      · have hjj : ii = ws.length := by omega
        subst hjj
        have hF : decide ((ws.length : Int) < (ws.length : Int)) = false := decide_eq_false (by omega)
        have H := HF.out
        rw [Nat.sub_self] at H
        unfold lr_loop at H
        obtain ⟨⟨q, nm'⟩, hq, H⟩ := Option.bind_eq_some_iff.mp H
        have VQ := Aside0.mk hq
        clear hq HF
        obtain ⟨A1, c1, e1⟩ := Kd.R_slice HS.out
        subst e1
        obtain ⟨A2, c2, e2⟩ := Kd.R_slice HM.out
        subst e2
        obtain ⟨_, hl1, hC1⟩ := Kd.R_reads' HS.out
        obtain ⟨_, hl2, hC2⟩ := Kd.R_reads' HM.out
        have hN : IsN26 wr wr gt nm S M := ⟨A1, c1, A2, c2, HG.out, trivial, ⟨hC1, hl1⟩, ⟨hC2, hl2⟩⟩
        have HN := Aside0.mk hN
        clear hN hC1 hC2 hl1 hl2
        go_wp2_with (fail)
        refine (spec_l17Ok_at.callsI k gt nm S M q nm' wr wr HN.out (Below.refl _ _) VQ.out).mono ?_
        rintro e w7 ⟨rfl, _, hb_, _⟩
        have n0_ := Aside0.mk (blk_below HG.out hb_)
        have n1_ := Aside0.mk (Kd.R_below HS.out hb_)
        have n2_ := Aside0.mk (Kd.R_below HM.out hb_)
        have n3_ := Aside0.mk (below_step HB.out hb_)
        have n4_ := Aside0.mk (blk_below BKR2.out hb_)
        clear HG HS HM HB BKR2 hb_ HN
        have HG := n0_
        have HS := n1_
        have HM := n2_
        have HB := n3_
        have BKR2 := n4_
        clear n0_ n1_ n2_ n3_ n4_
        dsimp only
        have hz0_ : w7.cell? ⟨gr, 0, none⟩ = some (.string (⟨#[]⟩ : ByteArray)) := (blk_cell BKR2.out 0).trans rfl
        have hz1_ : w7.cell? ⟨gr, 1, none⟩ = some (.slice none 0 0) := (blk_cell BKR2.out 1).trans rfl
        have hz2_ : w7.cell? ⟨gr, 2, none⟩ = some (.slice none 0 0) := (blk_cell BKR2.out 2).trans rfl
        have hf0_ := blk_frozen BKR2.out 0
        have hf1_ := blk_frozen BKR2.out 1
        have hf2_ := blk_frozen BKR2.out 2
        have hgr : w.heap.size ≤ gr := by rw [GR.out]; exact Nat.le_refl _
        have HBw := Aside0.mk (below_then HB2.out HB2.out.size HB.out)
        cases q with
        | false =>
          rw [if_neg (by simp)] at H
          simp only [Option.some.injEq, Prod.mk.injEq] at H
          obtain ⟨rfl, rfl, rfl, rfl⟩ := H
          go_wp2_with (fail)
          refine lr_ret ?hp ?hq rfl (lr_put3 BKR2.out) (Kd.R_nil _ _ _ _ _) (Kd.R_nil _ _ _ _ _) ?hb
          case hp => rfl
          case hq => rfl
          case hb => exact below_set (below_set (below_set HBw.out hgr) hgr) hgr
        | true =>
          rw [if_pos rfl] at H
          simp only [Option.some.injEq, Prod.mk.injEq] at H
          obtain ⟨rfl, rfl, rfl, rfl⟩ := H
          have hy0_ : w7.cell? ⟨gt, 0, none⟩ = some (.string nm) := (blk_cell HG.out 0).trans rfl
          have hy1_ : w7.cell? ⟨gt, 1, none⟩ = some (.slice A1 S.length c1) := (blk_cell HG.out 1).trans rfl
          have hy2_ : w7.cell? ⟨gt, 2, none⟩ = some (.slice A2 M.length c2) := (blk_cell HG.out 2).trans rfl
          have b2 := HB2.out.size
          go_wp2_with (fail)
          refine lr_ret ?hp ?hq rfl (lr_put3 BKR2.out) ?h1 ?h2 ?hb
          case hp => rfl
          case hq => rfl
          case h1 => exact Kd.R_lower (lr_set3 HS.out BKR2.out) b2
          case h2 => exact Kd.R_lower (lr_set3 HM.out BKR2.out) b2
          case hb => exact below_set (below_set (below_set HBw.out hgr) hgr) hgr
  · rw [if_neg hw] at H
    exact absurd H (by simp)

/-! ### spec_l00Src_one: function 57 -/
def spec_l00Src_one.f (s0_0 : List Int) (s0_1 : Int) (s0_2 : Int) (a1 : Int) : Option (Bool × Int × Int) := (spec_l00Src_pick.f s0_0 s0_1 s0_2 a1).bind fun bt137 => (some ((bt137.1 == 0), bt137.2.1, bt137.2.2))
set_option maxHeartbeats 8000000 in
set_option maxRecDepth 100000 in
theorem spec_l00Src_one.calls (g : Nat) (s0_0 : List Int) (s0_1 : Int) (s0_2 : Int) (a1 : Int) (r1 : Bool) (r2 : Int) (r3 : Int) (w0 w : World) (hI : IsS81 w0 w g s0_0 s0_1 s0_2) (hB : Below w0.heap.size w0 w) (h : spec_l00Src_one.f s0_0 s0_1 s0_2 a1 = some (r1, r2, r3)) :
    Calls Try.prog 57 #[.pointer (some ⟨g, 0, none⟩), .int .i64 a1] w fun e w' => e = .returned (.bool r1) ∧ IsS81 w0 w' g s0_0 r2 r3 ∧ Below w0.heap.size w0 w' ∧ KeepBut w w' g none := by
  have HI0 := Aside0.mk hI
  have HK := Aside0.mk (KeepBut.refl w g none)
  have HL := Aside0.mk hB.size
  clear hI
  have HW0 := Aside0.mk hB.size
  have HB := Aside0.mk hB
  clear hB
  have H : ((spec_l00Src_pick.f s0_0 s0_1 s0_2 a1).bind fun bt137 => (some ((bt137.1 == 0), bt137.2.1, bt137.2.2))) = some (r1, r2, r3) := h
  clear h
  replace H := Option.bind_eq_some_iff.mp H
  obtain ⟨⟨t137, t138, t139⟩, A30, H⟩ := H
  replace H : (some ((t137 == 0), t138, t139)) = some (r1, r2, r3) := H
  have A3 := Aside0.mk A30
  clear A30
  simp only [Option.some.injEq, Prod.mk.injEq] at H
  obtain ⟨rfl, rfl, rfl⟩ := H
  go_enter Try.func57, Try.ntmps57
  go_wp2_with (first | ((with_reducible refine gate_callee (f := 58) rfl ?_); refine goesL_ (some 7) rfl rfl Try.func58 (by kernel_rfl) rfl #[.pointer (some ⟨g, 0, none⟩), .int .i64 a1] rfl (by (try simp only [List.map_toArray, List.map_cons, List.map_nil]); first | done | rfl | (simp only [List.length_drop, List.length_take]; rfl)) ?_; (with_reducible refine (spec_l00Src_pick.calls g s0_0 s0_1 s0_2 a1 t137 t138 t139 w0 _ ?side1 ?side2 A3.out).mono ?_); (case side1 => repeat (first | (with_reducible first | exact HI0.out | apply IsS81.alloc | apply IsS81.drewN | apply IsS81.drew | apply IsS81.set_1 | apply IsS81.set_2) | exact HI0.out)); (case side2 => repeat (first | (with_reducible first | exact HB.out | apply below_alloc | apply pw_below_drewN | apply below_drew1 | refine below_set ?_ (IsS81.ge HI0.out)) | exact HB.out)); rintro e w4 ⟨rfl, hi, hb, hk⟩; refine ⟨_, rfl, ?_⟩; have n0_ := Aside0.mk (KeepBut.trans (by repeat (first | (with_reducible first | exact HK.out | apply KeepBut.set_ | apply keep_drewN | apply keep_drew | apply keep_alloc) | exact HK.out)) hk (.inl rfl)); have n1_ := Aside0.mk (hb); have n2_ := Aside0.mk (hi); clear HK; clear HB; clear HI0; have HK := n0_; have HB := n1_; have HI0 := n2_; clear n0_ n1_ n2_; (try clear hb); (try clear hb2); (try clear hk); (try clear hi)))
  go_ret
  exact ⟨by first | rfl | (simp [errW_none, errW_some] <;> rfl) | (simp [*, errW_none, errW_some] <;> rfl), by repeat (first | (with_reducible first | exact HI0.out | apply IsS81.alloc | apply IsS81.drewN | apply IsS81.drew | apply IsS81.set_1 | apply IsS81.set_2) | exact HI0.out), by repeat (first | (with_reducible first | exact HB.out | apply below_alloc | apply pw_below_drewN | apply below_drew1 | refine below_set ?_ (IsS81.ge HI0.out)) | exact HB.out), by repeat (first | (with_reducible first | exact HK.out | apply KeepBut.set_ | apply keep_drewN | apply keep_drew | apply keep_alloc) | exact HK.out)⟩

end Go.Proofs.Ytbpliblhpiompaa.PFnCadences
