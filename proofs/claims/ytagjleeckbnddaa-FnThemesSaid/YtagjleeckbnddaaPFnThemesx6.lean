-- written by xprint.py, a program of this repo over the kit's print; not trusted: Lean checks it
import Derived.Test.YtagjleeckbnddaaPFnThemesx0
import Derived.Test.YtagjleeckbnddaaPFnThemesx5
import Derived.RangeFuncNested
import Derived.RangeFuncBound
import Derived.RangeFuncCalls
import Derived.RangeFuncLeaves
import Derived.RangeFuncBox
import Derived.Shelf.RegionOpen
import Derived.OwnWalkIn
import Derived.TacticsInMore
import Derived.LoopNIn
import Derived.LoopIn
import Derived.Maps.AppendAt
namespace Go.Proofs.Ytagjleeckbnddaa.PFnThemes
open Go.RowKit Go.Proofs.YtagjleeckbnddaaW.PrintWords Go.Proofs.YtagjleeckbnddaaW.PrintLast Go.Proofs.YtagjleeckbnddaaW.PrintMore
attribute [local go_sem] max2_int min2_int max_two min_two max_three min_three max_four min_four   -- for this text's walks alone
set_option linter.unusedVariables false
set_option linter.unusedSimpArgs false

/-! ### impl_blocksOf: function 52, by hand -/
section
open Go.Shelf
attribute [local go_sem] Oper.semAt_some
theorem bo_info25 : (Try.prog.info? 25).map (fun i => (i.zero, i.size, i.bytes)) = some (some (.slice none 0 0), 1, 24) := by kernel_rfl
theorem cut_lhm {P : Program} (t e : TypeId) {i : TypeInfo} (ht : P.underlying t = some (.slice e)) (hi : P.info? e = some i) (hsz : i.size = 1) (ad : Addr) (n c : Nat) (lo hi' : Int) (h0 : 0 ≤ lo) (h1 : lo < hi') (h2 : hi' ≤ n) (hc : n ≤ c) :
    ∀ W : World, (Instr.slice t (.slice (some ad) n c) (some (.int .i64 lo)) (some (.int .i64 hi')) (some (.int .i64 hi'))).run P W = .ok (.slice (some (ad.add lo.toNat)) (hi'.toNat - lo.toNat) (hi'.toNat - lo.toNat)) W := by
  intro W
  have hel : P.elem t = e := by simp [Program.elem, ht]
  have hu : P.underlying t = some (.slice (P.elem t)) := by rw [hel]; exact ht
  rw [run_slice_lhm W t (some ad) n c hu .i64 .i64 .i64 lo hi' hi' h0 (by omega) (by omega) (by omega), hel];simp [sizeOf, typeInfo, hi, hsz, sliced, Result.andThen, add_at];(try omega)

/-- the iterator's two boxes stay -/
def Kp2 (Bs Bn : Nat) (W W' : World) : Prop := (∀ v, W.cell? ⟨Bs, 0, none⟩ = some v → W'.cell? ⟨Bs, 0, none⟩ = some v) ∧ (∀ v, W.cell? ⟨Bn, 0, none⟩ = some v → W'.cell? ⟨Bn, 0, none⟩ = some v)
def cval (ad : Addr) (len n : Nat) (i : Nat) : Value := .slice (some (ad.add i)) (min n (len - i)) (min n (len - i))
/-- the starts: of the first k blocks -/
def upto (n len k : Nat) (pre : List ({ i : Nat // i < len })) : Prop := pre.map (·.1) = (List.range k).map (· * n)

set_option maxRecDepth 100000 in
set_option maxHeartbeats 4000000 in
theorem chunk1_in (F : Fence) (n : Nat) (h7 : F.fn 116) (hro : F.round = none) (hn : 1 ≤ n) (l Bs Bn : Nat) (ad : Addr) (len cap m : Nat) (hlen : len < 4294967296) (hm1 : 1 ≤ m) (hm2 : m < 4294967296) (hcap : len ≤ cap) (J Jx : List ({ i : Nat // i < len }) → World → Prop)
    (hY : ∀ pre x W, J pre W → pre.length < len → YieldAt F (n - 1) Try.prog l #[cval ad len m x.1] W fun e W' =>
      (e = .returned (.bool true) ∧ J (pre ++ [x]) W' ∧ Kp2 Bs Bn W W') ∨ (e = .returned (.bool false) ∧ Jx (pre ++ [x]) W'))
    (hdr : ∀ pre W, J pre W → J pre W.drew) (W : World) (hBs : W.cell? ⟨Bs, 0, none⟩ = some (.slice (some ad) len cap)) (hBn : W.cell? ⟨Bn, 0, none⟩ = some (.int .i64 (m : Int))) (h0 : J [] W) :
    CallsIn F n Try.prog 116 #[.func (.yield l) #[] #[], .pointer (some ⟨Bs, 0, none⟩), .pointer (some ⟨Bn, 0, none⟩)] W fun e W' => (∃ v, e = .returned v) ∧
      ((∃ ys, (∃ k, upto m len k ys ∧ len ≤ k * m) ∧ J ys W') ∨ (∃ pre, True ∧ Jx pre W')) := by
  refine callsIn_of_wp Try.func116 rfl h7 ?_ hro;simp only [Try.ntmps116, List.size_toArray, List.length_cons, List.length_nil, Nat.reduceAdd, Nat.reduceSub, Array.replicate_succ, Array.replicate_zero, List.push_toArray, List.append_toArray, List.nil_append, List.cons_append];gi_wp2
  gi_loopw [4] (fun i wr => ∃ (k : Nat) (pre : List ({ i : Nat // i < len })), k ≤ len ∧ i = .int .i64 ((k * m : Nat) : Int) ∧ upto m len k pre ∧ J pre wr ∧ Kp2 Bs Bn W wr)
    (fun i _ => len - (intOf i).toNat)
  case atStart => exact ⟨0, [], Nat.zero_le _, by simp, rfl, h0, fun _ h => h, fun _ h => h⟩
  case round =>
    obtain ⟨k, pre, hk, rfl, hu, hJs, hnx⟩ := hrel;have hs1 := hnx.1 _ hBs;have hs2 := hnx.2 _ hBn;generalize hkm : k * m = i at *;by_cases hlt : i < len
    · have hpl : pre.length < len := by
        have := congrArg List.length hu;simp at this;rw [this];exact Nat.lt_of_le_of_lt (Nat.le_mul_of_pos_right k hm1) (by omega)
      have hmx : Try.prog.follows .mixedOrders = true := by kernel_rfl
      gi_wp2;refine (fun (fin : Aside0 (?T : Prop)) => ?main) ⟨?fin⟩
      case main => (gi_region; all_goals exact fin.out)
      case fin => (
        obtain ⟨fn, tmps, assign, body, hy, hR⟩ := hY _ ⟨i, hlt⟩ wr.drew (hdr _ _ hJs) hpl;dsimp only [cval] at hy;have hs1' : wr.drew.cell? ⟨Bs, 0, none⟩ = some (.slice (some ad) len cap) := hs1;have hs2' : wr.drew.cell? ⟨Bn, 0, none⟩ = some (.int .i64 (m : Int)) := hs2
        have hmin : (if len - i < m then ((len - i : Nat):Int) else (m:Int)) = ((min m (len - i) : Nat) : Int) := by split <;> omega
        obtain ⟨q, hq⟩ : ∃ q, q = min m (len - i) := ⟨_, rfl⟩;rw [← hq] at hmin hy
        have hq1 : 1 ≤ q := by omega
        have hq2 : i + q ≤ len := by omega
        clear hq;rw [hmin];clear hmin;obtain ⟨i2, hi2, _, hsz2, _⟩ := info_parts info2
        have hcutB : ∀ W : World, (Instr.slice 25 (.slice (some ad) len cap) (some (.int .i64 (i : Int))) (some (.int .i64 ((i : Int) + (q : Int)))) (some (.int .i64 ((i : Int) + (q : Int))))).run Try.prog W = .ok (.slice (some (ad.add i)) q q) W := by
          intro W;rw [cut_lhm 25 2 Try.underlying25 hi2 hsz2 ad len cap (i : Int) ((i : Int) + (q : Int)) (by omega) (by omega) (by omega) hcap W];rw [show ((i : Int) + (q : Int)).toNat - (i : Int).toNat = q by omega, Int.toNat_natCast]
        gi_wp2;refine hR.mono ?_;rintro e W3 (⟨rfl, hJ3, hk3⟩ | ⟨rfl, hJx3⟩)
        · have hs2'' := hk3.2 _ hs2'
          gi_wp2;go_roundw
          case rel =>
            have hlen1 : k < len := Nat.lt_of_le_of_lt (Nat.le_mul_of_pos_right k hm1) (by omega);refine ⟨k + 1, pre ++ [⟨i, hlt⟩], by omega, ?_, ?_, hJ3, fun v h => hk3.1 v (hnx.1 v h), fun v h => hk3.2 v (hnx.2 v h)⟩
            · rw [Nat.add_mul, Nat.one_mul, hkm]; simp
            · show (pre ++ [_]).map _ = _
              rw [List.map_append, show pre.map (·.1) = _ from hu, List.range_succ, List.map_append, List.map_singleton, List.map_singleton, hkm]
          case measure => simp [intOf]; omega
        · gi_wp2
          refine bodyPost_ret (results_none rfl _ _ _) rfl ?_
          exact ⟨⟨_, rfl⟩, .inr ⟨_, trivial, hJx3⟩⟩)
    · replace hlt : len ≤ i := by omega
      gi_wp2;go_end0;exact ⟨⟨_, rfl⟩, .inl ⟨pre, ⟨k, hu, by omega⟩, hJs⟩⟩

theorem Kp2.t {Bs Bn : Nat} {A B C : World} (h : Kp2 Bs Bn A B) (k : Kp2 Bs Bn B C) : Kp2 Bs Bn A C := ⟨fun v e => k.1 v (h.1 v e), fun v e => k.2 v (h.2 v e)⟩
theorem Kp2.b {Bs Bn : Nat} (W : World) (l : Nat) (o o' : Obj) (hl : W.heap[l]? = some o) (ho : o.isCells = false) : Kp2 Bs Bn W (W.putObj l o') :=
  ⟨fun v e => cell_kept e (grownBy_putObj' W l o') (fun r e2 => by cases e2; exact ⟨o, hl, ho⟩), fun v e => cell_kept e (grownBy_putObj' W l o') (fun r e2 => by cases e2; exact ⟨o, hl, ho⟩)⟩
theorem chunk_stops (n : Nat) (hn : 1 ≤ n) (Bs Bn : Nat) (ad : Addr) (len cap m : Nat) (hlen : len < 4294967296) (hm1 : 1 ≤ m) (hm2 : m < 4294967296) (hcap : len ≤ cap) (w : World) (hBs : w.cell? ⟨Bs, 0, none⟩ = some (.slice (some ad) len cap)) (hBn : w.cell? ⟨Bn, 0, none⟩ = some (.int .i64 (m : Int))) :
    SeqStopsK Fence.wide n Try.prog 116 #[.pointer (some ⟨Bs, 0, none⟩), .pointer (some ⟨Bn, 0, none⟩)] (fun x : { i : Nat // i < len } => #[cval ad len m x.1]) (Kp2 Bs Bn) (fun ys => ∃ k, upto m len k ys ∧ len ≤ k * m) (fun _ => True) len w := fun l J Jx W hW hJ _ hY h0 =>
  chunk1_in Fence.wide n trivial rfl hn l Bs Bn ad len cap m hlen hm1 hm2 hcap J Jx hY (fun pre W' hp => hJ pre W' _ none hp ⟨rfl, rfl, rfl, Nat.le_refl _, fun _ _ _ => rfl⟩ (fun r e => by cases e)) W ((hW.cell (p := ⟨Bs, 0, none⟩) (World.block_lt_of_cell? w _ hBs)).trans hBs) ((hW.cell (p := ⟨Bn, 0, none⟩) (World.block_lt_of_cell? w _ hBn)).trans hBn) h0
theorem S_appendOp {F : Fence} {n : Nat} {P : Program} {K : Act → World → Prop} {o : Oper} {a : Act} {Q : Exit → Act → World → Prop} {α : Type} (d : Kd α) {W : World} (base : Nat) (s x : Operand) (t e : TypeId) (z : Value) (bytes : Nat)
    (ho : o.op = .call { callee := .builtin .append, args := #[s, x], argTypes := #[t, t] })
    (ht : P.underlying t = some (.slice e)) (hinfo : (P.info? e).map (fun i => (i.zero, i.size, i.bytes)) = some (some z, d.sz, bytes)) (hz : z.cells.size = d.sz) (hs0 : 0 < d.sz) (hb0 : 0 < bytes)
    (v : Value) (xs : List α) (p : α) (cs : List Value) (ok okp : Nat → Prop) (hs : a.eval s = v) (hx : a.eval x = .slice (some ⟨W.heap.size, 0, none⟩) 1 1) (hp : d.M W base okp p cs) (hokp : ∀ k, okp k → ok k ∧ some k ≠ v.ownBlock) (hfresh : ∀ k, W.heap.size ≤ k → ok k)
    (HO : Kd.S d e W base (fun k => ok k ∧ ¬ okp k) v xs) (hbase : base ≤ W.heap.size) (hl : (xs.length + 1) * bytes ≤ 140737488355328)
    (h : ∀ v1 w1, Kd.S d e w1 base ok v1 (xs ++ [p]) → W.grownBy w1 v.ownBlock → (∃ g c, v1 = .slice (some ⟨g, 0, none⟩) (xs.length + 1) c) → K (a.put o.dst v1) w1) :
    Oper.wpIn F n P o a (W.alloc (.cells cs.toArray e)) K Q := by
  obtain ⟨f, hf, hR⟩ := Kd.S_tag HO xs.length okp (fun _ hk h2 => h2.2 hk);obtain ⟨h0, inner, hown, hr⟩ := Kd.R_mono hR (ok' := ok) (fun _ hk => hk.1);obtain ⟨i0, hi, hz0, hz1, hz2⟩ := info_parts hinfo;have hlen : cs.length = d.sz := d.K_len (d.K_of_M hp);obtain ⟨v', w', hrun, r1, r2, r3, r4⟩ := run_append_own_at (P := P) (W.alloc (.cells cs.toArray e)) base t o.type e i0 z d.sz bytes ht hi hz0 hz1 hz2 hz hs0 v xs.zipIdx.length inner (hown.alloc _) ⟨W.heap.size, 0, none⟩ 1 1 cs (by rw [hlen, Nat.one_mul]) (by simpa using World.news_of_block (cs := cs.toArray) (t := e) (fr := (0, 0)) (heap_alloc_new W (.cells cs.toArray e))) (d.K_one (d.K_of_M hp)) (by rw [List.length_zipIdx]; have : xs.length + 1 ≤ (xs.length + 1) * bytes := Nat.le_mul_of_pos_right _ hb0; simp only [maxLen]; omega) (by rw [List.length_zipIdx]; exact hl) (by simp; omega);unfold Oper.wpIn;refine ⟨?_, ?_⟩
  · simp [Oper.about, ho, resolve, Target.leads, Sem.run_pure]
  · rw [Oper.semAt_plain F _ _ (by rw [ho]; intro c hc'; cases hc')]
    simp [execOp, ho, resolve, invoke, builtin, hs, hx, hrun, Result.andThen];have hg : W.grownBy w' v.ownBlock := World.grownBy.trans (World.grownBy_alloc W _ _) r2;have hat : v'.ownBlock = v.ownBlock ∨ ∃ b, v'.ownBlock = some b ∧ W.heap.size ≤ b := r4.imp id (fun e => ⟨_, e, by simp⟩);refine h v' w' ⟨f, ?_⟩ hg (by rw [List.length_zipIdx] at r1; exact ownsRow_succ r1);rw [Kd.zip_snoc];refine Kd.R_appended h0 hr (p := (p, xs.length)) (okp := okp) (cs := cs) (d.M_mono (fun k hk => ⟨hk, hf k hk⟩) hp) hokp hfresh ?_ hg hat;exact r1
def chunk (n : Nat) (l : List Int) (i : Nat) : List Int := (l.drop i).take n
def chunks (n : Nat) (l : List Int) : List (List Int) := (List.range ((l.length + n - 1) / n)).map fun k => chunk n l (k * n)
theorem upto_chunks {n : Nat} {l : List Int} {k : Nat} {ys : List ({ i : Nat // i < l.length })} (hn : 1 ≤ n) (h : upto n l.length k ys) (hk : l.length ≤ k * n) : ys.map (fun x => chunk n l x.1) = chunks n l := by
  have e : ys.map (fun x => chunk n l x.1) = (ys.map (·.1)).map (chunk n l) := by rw [List.map_map]; rfl
  have h' : ys.map (·.1) = (List.range k).map (· * n) := h
  have hk2 : k = (l.length + n - 1) / n := by
    have h1 : (l.length + n - 1) / n ≤ k := by
      rw [Nat.div_le_iff_le_mul_add_pred (by omega)];have := Nat.mul_comm n k;omega
    refine Nat.le_antisymm ?_ h1
    cases k with
    | zero => exact Nat.zero_le _
    | succ k =>
      have hlast : k * n < l.length := by
        have h2 : k * n ∈ ys.map (·.1) := by rw [h']; exact List.mem_map.2 ⟨k, List.mem_range.2 (by omega), rfl⟩
        obtain ⟨x, _, hx⟩ := List.mem_map.1 h2;rw [← hx]; exact x.2
      rw [Nat.le_div_iff_mul_le (by omega), Nat.add_mul];omega
  rw [e, h', hk2, List.map_map];rfl
set_option maxHeartbeats 1000000 in
theorem chunk_in (n : Nat) (a : Option Addr) (len cap m : Nat) (w : World) (hm : 1 ≤ m) :
    CallsIn Fence.wide n Try.prog 96 #[.slice a len cap, .int .i64 (m : Int)] w fun e w' => e = .returned (.func (.func 116) #[] #[.pointer (some ⟨w.heap.size, 0, none⟩), .pointer (some ⟨w.heap.size + 1, 0, none⟩)]) ∧ w' = (w.alloc (.cells #[.slice a len cap] 25)).alloc (.cells #[.int .i64 (m : Int)] 3) := by
  refine callsIn_of_wp Try.func96 rfl trivial ?_ rfl;simp only [Try.ntmps96, List.size_toArray, List.length_cons, List.length_nil, Nat.reduceAdd, Nat.reduceSub, Array.replicate_succ, Array.replicate_zero, List.push_toArray, List.append_toArray, List.nil_append, List.cons_append];gi_wp2;go_ret;exact ⟨rfl, rfl⟩
/-- what the loop keeps: the box of the blocks -/
def blkI (w : World) (m : Nat) (l : List Int) (pre : List ({ i : Nat // i < l.length })) (W : World) : Prop :=
  (∃ v, Boxed W w.heap.size 30 v ∧ Kd.S (Kd.slice 2 (Kd.int .i64)) 25 W w.heap.size (fun k => w.heap.size + 3 ≤ k) v (pre.map fun x => chunk m l x.1)) ∧ Below w.heap.size w W ∧ w.heap.size + 3 ≤ W.heap.size
theorem blkI_own (w : World) (m : Nat) (l : List Int) (B : Nat) (hB : w.heap.size ≤ B) : OwnFrom B (blkI w m l) := by
  rintro s X Y row ⟨⟨v, hv, hS⟩, hb, hz⟩ hg hrow;refine ⟨⟨v, hv.kept hg (fun e => ?_), Kd.S_mono (Kd.S_grown (Kd.S_bound hS) hg (fun k hk e => ?_)) (fun _ hk => hk.1)⟩, ?_, Nat.le_trans hz hg.size⟩
  · obtain ⟨_, o, ho, hc⟩ := hrow _ e.symm
    rw [show X.heap[w.heap.size]? = _ from hv] at ho; cases ho; cases hc
  · obtain ⟨_, o, ho, hc⟩ := hrow k e.symm
    obtain ⟨_, _, _, q, _, cells, hk⟩ := hk;rw [hk] at ho; cases ho; cases hc
  · exact ownFrom_below (β := Unit) (Nat.le_refl _) hB () X Y row hb hg hrow
theorem chunk_C {w : World} {ad : Addr} {l : List Int} {m : Nat} (h : Kd.C (Kd.int .i64) w (some ad) l.length l) (i : Nat) (hi : i < l.length) : Kd.C (Kd.int .i64) w (some (ad.add i)) (chunk m l i).length (chunk m l i) := by
  have e : chunk m l i = (l.take (min (i + m) l.length)).drop i := by
    unfold chunk;rw [List.drop_take];by_cases c : i + m ≤ l.length
    · rw [Nat.min_eq_left c]; congr 1; omega
    · rw [Nat.min_eq_right (by omega), List.take_of_length_le (by rw [List.length_drop]; omega), List.take_of_length_le (by rw [List.length_drop]; omega)]
  have h2 := Kd.C_mid (c := l.length) h (lo := i) (hi := min (i + m) l.length) (by omega) (by omega) (Nat.le_refl _);rw [if_neg (by omega), ← e] at h2;rw [show (ad.add i) = ad.add (i * (Kd.int .i64).sz) by rw [show (Kd.int .i64).sz = 1 from rfl, Nat.mul_one]];exact h2
theorem chunk_len {l : List Int} {m i : Nat} : (chunk m l i).length = min m (l.length - i) := by unfold chunk; rw [List.length_take, List.length_drop]
set_option maxRecDepth 100000 in
set_option maxHeartbeats 4000000 in
theorem blocks_calls (A0 : Option Addr) (c0 : Nat) (l0 : List Int) (m : Nat) (w : World) (hr0 : Kd.C (Kd.int .i64) w A0 l0.length l0) (hc0 : l0.length ≤ c0) (hm1 : 1 ≤ m) (hm2 : m < 4294967296) (hl : l0.length < 4294967296) (hp : 0 < l0.length) :
    Calls Try.prog 52 #[.slice A0 l0.length c0, .int .i64 (m : Int)] w fun e w' => ∃ v0_ : Value, e = .returned v0_ ∧ Kd.S (Kd.slice 2 (Kd.int .i64)) 25 w' w.heap.size (fun _ => True) v0_ (chunks m l0) ∧ Below w.heap.size w w' := by
  obtain ⟨ad, rfl, _⟩ := hr0.2.2 hp;refine (callsIn_wide (n := 9)).1 ?_;refine callsIn_of_wp_marks Try.func52 rfl trivial ?_ rfl;simp only [Try.ntmps52, List.size_toArray, List.length_cons, List.length_nil, Nat.reduceAdd, Nat.reduceSub, Array.replicate_succ, Array.replicate_zero, List.push_toArray, List.append_toArray, List.nil_append, List.cons_append];gi_wp2_with (refine ⟨trivial, ?_⟩; gi_at_call 96; refine (chunk_in 8 _ _ _ m _ hm1).mono ?_; rintro e w' ⟨rfl, rfl⟩);have bB := ((Boxed.new w 30 (.slice none 0 0)).alloc (.cells #[.slice (some ad) l0.length c0] 25)).alloc (.cells #[.int .i64 (m : Int)] 3);have bS := (Boxed.new (w.alloc (.cells #[.slice none 0 0] 30)) 25 (.slice (some ad) l0.length c0)).alloc (.cells #[.int .i64 (m : Int)] 3);have bN := Boxed.new ((w.alloc (.cells #[.slice none 0 0] 30)).alloc (.cells #[.slice (some ad) l0.length c0] 25)) 3 (.int .i64 (m : Int));simp only [World.size_alloc] at bS bN;have hB0 : Below w.heap.size w (((w.alloc (.cells #[.slice none 0 0] 30)).alloc (.cells #[.slice (some ad) l0.length c0] 25)).alloc (.cells #[.int .i64 (m : Int)] 3)) := (((Below.refl _ w).alloc (Nat.le_refl _) _).alloc (by simp) _).alloc (by simp; omega) _
  refine wpIn_rangeFunc_ownG rfl (by omega) (gf := 116) (lb := #[.pointer (some ⟨w.heap.size + 1, 0, none⟩), .pointer (some ⟨w.heap.size + 1 + 1, 0, none⟩)]) rfl trivial (enters_of Try.func116 (by kernel_rfl) rfl)
    (chunk_stops 8 (by omega) (w.heap.size + 1) (w.heap.size + 1 + 1) ad l0.length c0 m hl hm1 hm2 hc0 _ bS.cell bN.cell) Kp2.t (fun W l o o' _ hl ho _ => Kp2.b W l o o' hl ho) (Below.refl _ _) (fun _ => rfl)
    (blkI w m l0) (fun _ _ _ => False) (blkI_own w m l0 _ (by simp; omega)) (fun _ _ _ _ _ hs _ _ => hs) ⟨⟨_, bB, Kd.S_nil _ _ _ _ _⟩, hB0, by simp⟩
    (fun x => { tmps := #[.slice (some ad) l0.length c0, .int .i64 (m : Int), undef, undef, .slice none 0 0, .pointer (some ⟨w.heap.size, 0, none⟩), cval ad l0.length m x.1, .slice (some ad) l0.length c0, .int .i64 (m : Int), .func (.func 116) #[] #[.pointer (some ⟨w.heap.size + 1, 0, none⟩), .pointer (some ⟨w.heap.size + 1 + 1, 0, none⟩)], cval ad l0.length m x.1, undef, undef, undef, undef, undef, undef], defers := [] }) ?assign ?body ?done ?stop
  case assign =>
    intro l x W K hK;dsimp only [cval] at hK;gi_wp2;exact hK
  case body =>
    rintro l pre x W ⟨⟨v, hv, hS⟩, hB, hz⟩ hlt;have hC := chunk_C (m := m) (Kd.C_below hr0 hB) x.1 x.2;have hcl : (chunk m l0 x.1).length = min m (l0.length - x.1) := chunk_len
    have hlen : (chunk m l0 x.1).length < 17592186044416 := by omega
    have hcv : cval ad l0.length m x.1 = .slice (some (ad.add x.1)) (chunk m l0 x.1).length (chunk m l0 x.1).length := by unfold cval; rw [hcl]
    rw [hcv];clear hcv hcl;have hxs : (pre.map fun x => chunk m l0 x.1).length = pre.length := List.length_map _
    show Code.wpIn _ _ _ _ (ownPostG _ _ _ _ _ _) _ _
    have hfin : ∀ W3, (∃ v1, Boxed W3 w.heap.size 30 v1 ∧ Kd.S (Kd.slice 2 (Kd.int .i64)) 25 W3 w.heap.size (fun k => w.heap.size + 3 ≤ k) v1 ((pre.map fun x => chunk m l0 x.1) ++ [chunk m l0 x.1])) → Below w.heap.size w W3 → w.heap.size + 3 ≤ W3.heap.size → blkI w m l0 (pre ++ [x]) W3 := by
      rintro W3 ⟨v1, h1, h2⟩ h3 h4;exact ⟨⟨v1, h1, by rw [List.map_append]; exact h2⟩, h3, h4⟩
    generalize (pre.map fun x => chunk m l0 x.1) = xs at *;generalize chunk m l0 x.1 = ch at *;have hc := hv.cell;have hfz := hv.frozen
    have hmx : Try.prog.follows .mixedOrders = true := by kernel_rfl
    have hclone : slices_Clone_int64_int64.f ch = some ch := if_pos hlen;have hS0 : Kd.S (Kd.slice 2 (Kd.int .i64)) 25 W.drew w.heap.size (fun k => w.heap.size + 3 ≤ k) v xs := Kd.S_drew hS
    have hfin2 : ∀ (BB : Nat) (w2 w1 : World) (v1 : Value), Below W.heap.size W.drew w2 → w2.grownBy w1 v.ownBlock → Boxed w1 w.heap.size 30 v → Kd.S (Kd.slice 2 (Kd.int .i64)) 25 w1 w.heap.size (fun k => w.heap.size + 3 ≤ k) v1 (xs ++ [ch]) →
        KeepsFrom BB W (w1.setCell ⟨w.heap.size, 0, none⟩ v1) ∧ Kp2 (w.heap.size + 1) (w.heap.size + 1 + 1) W (w1.setCell ⟨w.heap.size, 0, none⟩ v1) ∧ blkI w m l0 (pre ++ [x]) (w1.setCell ⟨w.heap.size, 0, none⟩ v1) := by
      intro BB w2 w1 v1 hb2 hg1 hv1 hS1;have hz2 : W.heap.size ≤ w2.heap.size := hb2.size;have hz1 : w2.heap.size ≤ w1.heap.size := hg1.size
      have hz3 : (w1.setCell ⟨w.heap.size, 0, none⟩ v1).heap.size = w1.heap.size := by simp [World.setCell]
      have hblk : ∀ k, k < W.heap.size → some k ≠ v.ownBlock → k ≠ w.heap.size → (w1.setCell ⟨w.heap.size, 0, none⟩ v1).heap[k]? = W.heap[k]? := fun k h1 h2 h3 =>
        (Below.heap_setCell w1 ⟨w.heap.size, 0, none⟩ v1 k h3).trans ((hg1.block k (by omega) h2).trans (hb2.block k h1))
      have hown : ∀ k, v.ownBlock = some k → w.heap.size + 3 ≤ k := (Kd.S_R hS).1
      have hcell : ∀ k z, k < w.heap.size + 3 → k ≠ w.heap.size → W.cell? ⟨k, 0, none⟩ = some z → (w1.setCell ⟨w.heap.size, 0, none⟩ v1).cell? ⟨k, 0, none⟩ = some z := fun k z h1 h2 e => by
        have := hblk k (by omega) (fun e => by have := hown k e.symm; omega) h2;simpa [World.cell?, this] using e
      have hbb : Below w.heap.size W w1 := ((below_drew (Below.refl _ _)).trans (hb2.mono hB.size)).grown hg1 (by omega) (fun k e => by have := hown k e; omega);refine ⟨⟨by omega, fun k o _ hk ho => ?_⟩, ⟨fun z e => hcell _ z (by omega) (by omega) e, fun z e => hcell _ z (by omega) (by omega) e⟩, hfin _ ⟨v1, hv1.set _, Kd.S_set hS1 hv1 (by decide) 0 v1⟩ ((hB.trans hbb).setCell (p := ⟨w.heap.size, 0, none⟩) (Nat.le_refl _) v1) (by omega)⟩;have hk1 := (Array.getElem?_eq_some_iff.1 hk).1;refine (hblk k hk1 (fun e => ?_) (fun e => ?_)).trans hk
      · obtain ⟨cells, hc'⟩ := Kd.S_typed hS k e.symm
        rw [hk] at hc'; cases hc'; cases ho
      · subst e
        rw [show W.heap[w.heap.size]? = _ from hv] at hk; cases hk; cases ho
    gi_wp2;refine wpIn_region_any hmx ?_
    change wpAnyIn _ _ _ _ _ _ _ _ _ (World.drew _)
    refine wpAnyIn_ready (rs := [0, 1]) (by kernel_rfl) (by simp) ?_;refine AllReadyIn.cons rfl (fun K hK => ?_) (AllReadyIn.cons rfl (fun K hK => ?_) (AllReadyIn.nil))
    · go_simp
      refine hK _ _ ?_;clear hK K;refine wpAnyIn_ready (rs := [1]) (by kernel_rfl) (by simp) ?_;refine AllReadyIn.cons rfl (fun K hK => ?_) (AllReadyIn.nil);go_simp;refine hK _ _ ?_;clear hK K;refine wpAnyIn_ready (rs := [2]) (by kernel_rfl) (by simp) ?_;refine AllReadyIn.cons rfl (fun K hK => ?_) (AllReadyIn.nil);go_simp
      gi_wp2_with (refine ⟨trivial, ?_⟩; gi_at_call 50; refine (CallsIn.inRound l (callsIn_wide.2 (slices_Clone_int64_int64.calls (some (ad.add x.1)) ch.length ch ch _ (Kd.C_drew hC) (Nat.le_refl _) hclone))).mono ?_
                   rintro e w2 ⟨v2, rfl, hR2, hb2⟩;obtain ⟨A2, c2, rfl⟩ := Kd.R_slice hR2;have hlt2 : W.heap.size ≤ w2.heap.size := hb2.size;have hS2 : Kd.S (Kd.slice 2 (Kd.int .i64)) 25 w2 w.heap.size (fun k => (w.heap.size + 3 ≤ k) ∧ ¬ (some k = (Value.slice A2 ch.length c2).ownBlock)) v xs := Kd.S_mono (Kd.S_old hS0 hb2) (fun k hk => ⟨hk.1, fun e => by have := Kd.R_base hR2 k e.symm; have := hk.2; simp at *; omega⟩);have hM2 : (Kd.slice 2 (Kd.int .i64)).M w2 w.heap.size (fun k => some k = (Value.slice A2 ch.length c2).ownBlock) ch [.slice A2 ch.length c2] := Kd.M_row (Kd.R_tight rfl (Kd.R_lower hR2 (by simp; omega)))
                   have hok2 : ∀ k, some k = (Value.slice A2 ch.length c2).ownBlock → (w.heap.size + 3 ≤ k) ∧ some k ≠ v.ownBlock := fun k e => by
                     have h1 := Kd.R_base hR2 k e.symm;simp at h1;exact ⟨by omega, fun e2 => by have := Kd.S_lt hS k e2.symm; omega⟩
                   have hv2 : Boxed w2 w.heap.size 30 v := (hb2.block _ (by simpa using hv.lt)).trans (show W.drew.heap[w.heap.size]? = _ from hv);have hc2 := hv2.cell
                   have hc3 : (w2.alloc (.cells #[.slice A2 ch.length c2] 25)).cell? ⟨w.heap.size, 0, none⟩ = some v := (hv2.alloc _).cell)
      refine wpAnyIn_ready (rs := [3]) (by kernel_rfl) (by simp) ?_;refine AllReadyIn.cons rfl (fun K hK => ?_) (AllReadyIn.nil);go_simp;refine hK _ _ ?_;clear hK K;refine wpAnyIn_ready (rs := [4]) (by kernel_rfl) (by simp) ?_;refine AllReadyIn.cons rfl (fun K hK => ?_) (AllReadyIn.nil);rw [if_pos (by kernel_rfl)];refine S_appendOp (Kd.slice 2 (Kd.int .i64)) w.heap.size _ _ 30 25 (.slice none 0 0) 24 rfl Try.underlying30 bo_info25 rfl (by decide) (by decide) v xs ch [.slice A2 ch.length c2] (fun k => w.heap.size + 3 ≤ k) (fun k => some k = (Value.slice A2 ch.length c2).ownBlock) rfl rfl hM2 hok2 (fun k hk => by omega) hS2 (by omega) (by omega) ?_;rintro v1 w1 hS1 hg1 ⟨g1, c1, rfl⟩;have hv1 : Boxed w1 w.heap.size 30 v := hv2.kept hg1 (fun e => by have := (Kd.S_R hS).1 _ e.symm; omega);have hc1 := hv1.cell;have hf1 := hv1.frozen;refine hK _ _ ?_;clear hK K;refine wpAnyIn_ready (rs := [5]) (by kernel_rfl) (by simp) ?_;refine AllReadyIn.cons rfl (fun K hK => ?_) (AllReadyIn.nil);go_simp;refine hK _ _ ?_;clear hK K;refine wpAnyIn_done (by kernel_rfl) ?_ _;exact hfin2 _ w2 w1 _ hb2 hg1 hv1 (by rw [← hxs]; exact hS1)
    · go_simp
      refine hK _ _ ?_;clear hK K;refine wpAnyIn_ready (rs := [0, 2]) (by kernel_rfl) (by simp) ?_;refine AllReadyIn.cons rfl (fun K hK => ?_) (AllReadyIn.cons rfl (fun K hK => ?_) (AllReadyIn.nil))
      · go_simp
        refine hK _ _ ?_;clear hK K;refine wpAnyIn_ready (rs := [2]) (by kernel_rfl) (by simp) ?_;refine AllReadyIn.cons rfl (fun K hK => ?_) (AllReadyIn.nil);go_simp
        gi_wp2_with (refine ⟨trivial, ?_⟩; gi_at_call 50; refine (CallsIn.inRound l (callsIn_wide.2 (slices_Clone_int64_int64.calls (some (ad.add x.1)) ch.length ch ch _ (Kd.C_drew hC) (Nat.le_refl _) hclone))).mono ?_
                     rintro e w2 ⟨v2, rfl, hR2, hb2⟩;obtain ⟨A2, c2, rfl⟩ := Kd.R_slice hR2;have hlt2 : W.heap.size ≤ w2.heap.size := hb2.size;have hS2 : Kd.S (Kd.slice 2 (Kd.int .i64)) 25 w2 w.heap.size (fun k => (w.heap.size + 3 ≤ k) ∧ ¬ (some k = (Value.slice A2 ch.length c2).ownBlock)) v xs := Kd.S_mono (Kd.S_old hS0 hb2) (fun k hk => ⟨hk.1, fun e => by have := Kd.R_base hR2 k e.symm; have := hk.2; simp at *; omega⟩);have hM2 : (Kd.slice 2 (Kd.int .i64)).M w2 w.heap.size (fun k => some k = (Value.slice A2 ch.length c2).ownBlock) ch [.slice A2 ch.length c2] := Kd.M_row (Kd.R_tight rfl (Kd.R_lower hR2 (by simp; omega)))
                     have hok2 : ∀ k, some k = (Value.slice A2 ch.length c2).ownBlock → (w.heap.size + 3 ≤ k) ∧ some k ≠ v.ownBlock := fun k e => by
                       have h1 := Kd.R_base hR2 k e.symm;simp at h1;exact ⟨by omega, fun e2 => by have := Kd.S_lt hS k e2.symm; omega⟩
                     have hv2 : Boxed w2 w.heap.size 30 v := (hb2.block _ (by simpa using hv.lt)).trans (show W.drew.heap[w.heap.size]? = _ from hv);have hc2 := hv2.cell
                     have hc3 : (w2.alloc (.cells #[.slice A2 ch.length c2] 25)).cell? ⟨w.heap.size, 0, none⟩ = some v := (hv2.alloc _).cell)
        refine wpAnyIn_ready (rs := [3]) (by kernel_rfl) (by simp) ?_;refine AllReadyIn.cons rfl (fun K hK => ?_) (AllReadyIn.nil);go_simp;refine hK _ _ ?_;clear hK K;refine wpAnyIn_ready (rs := [4]) (by kernel_rfl) (by simp) ?_;refine AllReadyIn.cons rfl (fun K hK => ?_) (AllReadyIn.nil);rw [if_pos (by kernel_rfl)];refine S_appendOp (Kd.slice 2 (Kd.int .i64)) w.heap.size _ _ 30 25 (.slice none 0 0) 24 rfl Try.underlying30 bo_info25 rfl (by decide) (by decide) v xs ch [.slice A2 ch.length c2] (fun k => w.heap.size + 3 ≤ k) (fun k => some k = (Value.slice A2 ch.length c2).ownBlock) rfl rfl hM2 hok2 (fun k hk => by omega) hS2 (by omega) (by omega) ?_;rintro v1 w1 hS1 hg1 ⟨g1, c1, rfl⟩;have hv1 : Boxed w1 w.heap.size 30 v := hv2.kept hg1 (fun e => by have := (Kd.S_R hS).1 _ e.symm; omega);have hc1 := hv1.cell;have hf1 := hv1.frozen;refine hK _ _ ?_;clear hK K;refine wpAnyIn_ready (rs := [5]) (by kernel_rfl) (by simp) ?_;refine AllReadyIn.cons rfl (fun K hK => ?_) (AllReadyIn.nil);go_simp;refine hK _ _ ?_;clear hK K;refine wpAnyIn_done (by kernel_rfl) ?_ _;exact hfin2 _ w2 w1 _ hb2 hg1 hv1 (by rw [← hxs]; exact hS1)
      · go_simp
        gi_wp2_with (refine ⟨trivial, ?_⟩; gi_at_call 50; refine (CallsIn.inRound l (callsIn_wide.2 (slices_Clone_int64_int64.calls (some (ad.add x.1)) ch.length ch ch _ (Kd.C_drew hC) (Nat.le_refl _) hclone))).mono ?_
                     rintro e w2 ⟨v2, rfl, hR2, hb2⟩;obtain ⟨A2, c2, rfl⟩ := Kd.R_slice hR2;have hlt2 : W.heap.size ≤ w2.heap.size := hb2.size;have hS2 : Kd.S (Kd.slice 2 (Kd.int .i64)) 25 w2 w.heap.size (fun k => (w.heap.size + 3 ≤ k) ∧ ¬ (some k = (Value.slice A2 ch.length c2).ownBlock)) v xs := Kd.S_mono (Kd.S_old hS0 hb2) (fun k hk => ⟨hk.1, fun e => by have := Kd.R_base hR2 k e.symm; have := hk.2; simp at *; omega⟩);have hM2 : (Kd.slice 2 (Kd.int .i64)).M w2 w.heap.size (fun k => some k = (Value.slice A2 ch.length c2).ownBlock) ch [.slice A2 ch.length c2] := Kd.M_row (Kd.R_tight rfl (Kd.R_lower hR2 (by simp; omega)))
                     have hok2 : ∀ k, some k = (Value.slice A2 ch.length c2).ownBlock → (w.heap.size + 3 ≤ k) ∧ some k ≠ v.ownBlock := fun k e => by
                       have h1 := Kd.R_base hR2 k e.symm;simp at h1;exact ⟨by omega, fun e2 => by have := Kd.S_lt hS k e2.symm; omega⟩
                     have hv2 : Boxed w2 w.heap.size 30 v := (hb2.block _ (by simpa using hv.lt)).trans (show W.drew.heap[w.heap.size]? = _ from hv);have hc2 := hv2.cell
                     have hc3 : (w2.alloc (.cells #[.slice A2 ch.length c2] 25)).cell? ⟨w.heap.size, 0, none⟩ = some v := (hv2.alloc _).cell)
        refine wpAnyIn_ready (rs := [0, 3]) (by kernel_rfl) (by simp) ?_;refine AllReadyIn.cons rfl (fun K hK => ?_) (AllReadyIn.cons rfl (fun K hK => ?_) (AllReadyIn.nil))
        · go_simp
          refine hK _ _ ?_;clear hK K;refine wpAnyIn_ready (rs := [3]) (by kernel_rfl) (by simp) ?_;refine AllReadyIn.cons rfl (fun K hK => ?_) (AllReadyIn.nil);go_simp;refine hK _ _ ?_;clear hK K;refine wpAnyIn_ready (rs := [4]) (by kernel_rfl) (by simp) ?_;refine AllReadyIn.cons rfl (fun K hK => ?_) (AllReadyIn.nil);rw [if_pos (by kernel_rfl)];refine S_appendOp (Kd.slice 2 (Kd.int .i64)) w.heap.size _ _ 30 25 (.slice none 0 0) 24 rfl Try.underlying30 bo_info25 rfl (by decide) (by decide) v xs ch [.slice A2 ch.length c2] (fun k => w.heap.size + 3 ≤ k) (fun k => some k = (Value.slice A2 ch.length c2).ownBlock) rfl rfl hM2 hok2 (fun k hk => by omega) hS2 (by omega) (by omega) ?_;rintro v1 w1 hS1 hg1 ⟨g1, c1, rfl⟩;have hv1 : Boxed w1 w.heap.size 30 v := hv2.kept hg1 (fun e => by have := (Kd.S_R hS).1 _ e.symm; omega);have hc1 := hv1.cell;have hf1 := hv1.frozen;refine hK _ _ ?_;clear hK K;refine wpAnyIn_ready (rs := [5]) (by kernel_rfl) (by simp) ?_;refine AllReadyIn.cons rfl (fun K hK => ?_) (AllReadyIn.nil);go_simp;refine hK _ _ ?_;clear hK K;refine wpAnyIn_done (by kernel_rfl) ?_ _;exact hfin2 _ w2 w1 _ hb2 hg1 hv1 (by rw [← hxs]; exact hS1)
        · go_simp
          refine hK _ _ ?_;clear hK K;refine wpAnyIn_ready (rs := [0]) (by kernel_rfl) (by simp) ?_;refine AllReadyIn.cons rfl (fun K hK => ?_) (AllReadyIn.nil);go_simp;refine hK _ _ ?_;clear hK K;refine wpAnyIn_ready (rs := [4]) (by kernel_rfl) (by simp) ?_;refine AllReadyIn.cons rfl (fun K hK => ?_) (AllReadyIn.nil);rw [if_pos (by kernel_rfl)];refine S_appendOp (Kd.slice 2 (Kd.int .i64)) w.heap.size _ _ 30 25 (.slice none 0 0) 24 rfl Try.underlying30 bo_info25 rfl (by decide) (by decide) v xs ch [.slice A2 ch.length c2] (fun k => w.heap.size + 3 ≤ k) (fun k => some k = (Value.slice A2 ch.length c2).ownBlock) rfl rfl hM2 hok2 (fun k hk => by omega) hS2 (by omega) (by omega) ?_;rintro v1 w1 hS1 hg1 ⟨g1, c1, rfl⟩;have hv1 : Boxed w1 w.heap.size 30 v := hv2.kept hg1 (fun e => by have := (Kd.S_R hS).1 _ e.symm; omega);have hc1 := hv1.cell;have hf1 := hv1.frozen;refine hK _ _ ?_;clear hK K;refine wpAnyIn_ready (rs := [5]) (by kernel_rfl) (by simp) ?_;refine AllReadyIn.cons rfl (fun K hK => ?_) (AllReadyIn.nil);go_simp;refine hK _ _ ?_;clear hK K;refine wpAnyIn_done (by kernel_rfl) ?_ _;exact hfin2 _ w2 w1 _ hb2 hg1 hv1 (by rw [← hxs]; exact hS1)
  case done =>
    rintro D ys W hD ⟨k, hu, hk⟩ ⟨⟨v, hv, hS⟩, hB, hz⟩ hK;have hc := hv.cell;gi_wp2
    refine ⟨by simp, .inl ⟨_, _, rfl, run_takeDeferred hK, ?_⟩⟩
    refine ⟨_, results_tmp rfl _ _ _, v, rfl, ?_, hB.trans (belowK_b (w := w) (Nat.le_refl _) W D _ _ (by simp at hD; omega) hK rfl rfl)⟩;rw [← upto_chunks hm1 hu hk];refine Kd.S_mono (Kd.S_grown (Kd.S_bound hS) (grownBy_putObj' W D _) (fun k hk e => ?_)) (fun _ _ => trivial)
    cases e
    obtain ⟨_, _, _, q, _, cells, hk⟩ := hk;rw [hk] at hK; cases hK
  case stop =>
    rintro D c pre W _ _ h _;exact h.elim
end
def impl_blocksOf.f (l0 : List Int) (a1 : Int) : Option (List (List Int)) := if 0 < l0.length ∧ l0.length < 4294967296 ∧ 1 ≤ a1 ∧ a1 < 4294967296 then some (chunks a1.toNat l0) else none
theorem impl_blocksOf.calls (A0 : Option Addr) (c0 : Nat) (l0 : List Int) (a1 : Int) (r : List (List Int)) (w : World) (hr0 : Kd.C (Kd.int .i64) w A0 l0.length l0) (hc0 : l0.length ≤ c0) (h : impl_blocksOf.f l0 a1 = some r) :
    Calls Try.prog 52 #[.slice A0 l0.length c0, .int .i64 a1] w fun e w' => ∃ v0_ : Value, e = .returned (v0_) ∧ Kd.S (Kd.slice 2 (Kd.int .i64)) 25 w' w.heap.size (fun _ => True) v0_ r ∧ Below w.heap.size w w' := by
  have H : (if 0 < l0.length ∧ l0.length < 4294967296 ∧ 1 ≤ a1 ∧ a1 < 4294967296 then some (chunks a1.toNat l0) else none) = some r := h;by_cases c : 0 < l0.length ∧ l0.length < 4294967296 ∧ 1 ≤ a1 ∧ a1 < 4294967296
  · rw [if_pos c] at H
    obtain rfl := Option.some.inj H;obtain ⟨h1, h2, h3, h4⟩ := c;have := blocks_calls A0 c0 l0 a1.toNat w hr0 hc0 (by omega) (by omega) h2 h1;rw [show ((a1.toNat : Nat) : Int) = a1 by omega] at this;exact this
  · rw [if_neg c] at H
    exact absurd H (by simp)

/-! ### impl_BlocksOf: function 9 -/
def impl_BlocksOf.f (k : Nat) (l0 : List (S93)) (l1 : List Int) (a2 : Int) : Option ((List (List Int)) × Int) := (impl_themeCode.f k l0 l1 a2).bind fun t313 => (if t313 = 0 then ((impl_blocksOf.f l1 a2).bind fun t314 => (some (t314, 0))) else (some (([] : List (List Int)), t313)))
theorem impl_BlocksOf.mono : ∀ a0 a1 a2 k, LeO (impl_BlocksOf.f k a0 a1 a2) (impl_BlocksOf.f (k + 1) a0 a1 a2) := by
  intro a0 a1 a2 k;unfold impl_BlocksOf.f
  repeat' first
      | (with_reducible exact impl_themeCode.mono _ _ _ _)
      | (with_reducible exact LeO.refl _)
      | (with_reducible exact LeO.none _)
      | (with_reducible refine LeO.ite ?_ ?_)
      | (with_reducible refine LeO.bind ?_ (fun _ => ?_))
      | exact impl_themeCode.mono _ _ _ _
      | exact LeO.none _
      | refine LeO.ite ?_ ?_
      | refine LeO.bind ?_ (fun _ => ?_)
set_option maxHeartbeats 8000000 in
set_option maxRecDepth 100000 in
theorem impl_BlocksOf.calls (k : Nat) (A0 : Option Addr) (c0 : Nat) (l0 : List (S93)) (A1 : Option Addr) (c1 : Nat) (l1 : List Int) (a2 : Int) (r1 : List (List Int)) (r2 : Int) (w : World) (hr0 : Kd.C k93 w A0 l0.length l0) (hc0 : l0.length ≤ c0) (hr1 : Kd.C (Kd.int .i64) w A1 l1.length l1) (hc1 : l1.length ≤ c1) (h : impl_BlocksOf.f k l0 l1 a2 = some (r1, r2)) :
    Calls Try.prog 9 #[.slice A0 l0.length c0, .slice A1 l1.length c1, .int .i64 a2] w fun e w' => ∃ v0_ : Value, e = .returned (.tuple #[v0_, .int .i64 r2]) ∧ Kd.S (Kd.slice 2 (Kd.int .i64)) 25 w' w.heap.size (fun _ => True) v0_ r1 ∧ Below w.heap.size w w' := by
  have HR0 := Aside0.mk hr0;have HC0 := Aside0.mk hc0;clear hr0 hc0;have HR1 := Aside0.mk hr1;have HC1 := Aside0.mk hc1;clear hr1 hc1;have HB := Aside0.mk (Below.refl w.heap.size w);have H : ((impl_themeCode.f k l0 l1 a2).bind fun t313 => (if t313 = 0 then ((impl_blocksOf.f l1 a2).bind fun t314 => (some (t314, 0))) else (some (([] : List (List Int)), t313)))) = some (r1, r2) := h;clear h;replace H := Option.bind_eq_some_iff.mp H;obtain ⟨t313, A40, H⟩ := H;replace H : (if t313 = 0 then ((impl_blocksOf.f l1 a2).bind fun t314 => (some (t314, 0))) else (some (([] : List (List Int)), t313))) = some (r1, r2) := H;have A4 := Aside0.mk A40;clear A40;by_cases c5 : t313 = 0
  · rw [if_pos c5] at H
    have c5b0 : (t313 == 0) = true := beq_iff_eq.mpr c5;have c5b1 : (t313 != 0) = false := bne_eq_false_iff_eq.mpr c5;clear c5;replace H := Option.bind_eq_some_iff.mp H;obtain ⟨t314, A60, H⟩ := H;replace H : (some (t314, 0)) = some (r1, r2) := H;have A6 := Aside0.mk A60;clear A60;simp only [Option.some.injEq, Prod.mk.injEq] at H;obtain ⟨rfl, rfl⟩ := H;go_enter Try.func9, Try.ntmps9;go_wp2_with (first | ((with_reducible refine gate_callee (f := 49) rfl ?_); refine goesL_ (some 12) rfl rfl Try.func49 (by kernel_rfl) rfl #[.slice A0 l0.length c0, .slice A1 l1.length c1, .int .i64 a2] rfl (by (try simp only [List.map_toArray, List.map]); try rfl) ?_; (with_reducible refine (impl_themeCode.calls k _ _ l0 _ _ l1 a2 t313 _ ?side1 ?side2 ?side3 ?side4 A4.out).mono ?_); (case side1 => exact HR0.out); (case side2 => exact HC0.out); (case side3 => exact HR1.out); (case side4 => exact HC1.out); rintro e w7 ⟨rfl, hb⟩; refine ⟨_, rfl, ?_⟩; have n0_ := Aside0.mk (below_step (by repeat (first | exact HB.out | apply below_alloc | apply pw_below_drewN | apply below_drew1)) hb); clear HB; have HB := n0_; clear n0_; (try clear hb); (try clear hb2); (try clear hk); (try clear hi)) | ((with_reducible refine gate_callee (f := 52) rfl ?_); refine goesL_ (some 18) rfl rfl Try.func52 (by kernel_rfl) rfl #[.slice A1 l1.length c1, .int .i64 a2] rfl (by (try simp only [List.map_toArray, List.map]); try rfl) ?_; (with_reducible refine (impl_blocksOf.calls _ _ l1 a2 t314 _ ?side1 ?side2 A6.out).mono ?_); (case side1 => exact (Kd.C_below HR1.out HB.out)); (case side2 => exact HC1.out); rintro e w8 ⟨v315, rfl, ho0, hb⟩; refine ⟨_, rfl, ?_⟩; have n0_ := Aside0.mk (Kd.S_lower ho0 (below_size (by repeat (first | exact HB.out | apply below_alloc | apply pw_below_drewN | apply below_drew1)))); have n1_ := Aside0.mk (below_step (by repeat (first | exact HB.out | apply below_alloc | apply pw_below_drewN | apply below_drew1)) hb); clear HB; have HO316 := n0_; have HB := n1_; clear n0_ n1_; (try clear hb); (try clear hb2); (try clear hk); (try clear hi); (try clear ho0)))
    go_ret2;exact ⟨_, by first | rfl | (simp [errW_none, errW_some] <;> rfl) | (simp [*, errW_none, errW_some] <;> rfl), by exact HO316.out, by repeat (first | exact HB.out | apply below_alloc | apply pw_below_drewN | apply below_drew1)⟩
  · rw [if_neg c5] at H
    have c5b0 : (t313 == 0) = false := beq_eq_false_iff_ne.mpr c5;have c5b1 : (t313 != 0) = true := bne_iff_ne.mpr c5;simp only [Option.some.injEq, Prod.mk.injEq] at H;obtain ⟨rfl, rfl⟩ := H;go_enter Try.func9, Try.ntmps9;go_wp2_with (first | ((with_reducible refine gate_callee (f := 49) rfl ?_); refine goesL_ (some 12) rfl rfl Try.func49 (by kernel_rfl) rfl #[.slice A0 l0.length c0, .slice A1 l1.length c1, .int .i64 a2] rfl (by (try simp only [List.map_toArray, List.map]); try rfl) ?_; (with_reducible refine (impl_themeCode.calls k _ _ l0 _ _ l1 a2 t313 _ ?side1 ?side2 ?side3 ?side4 A4.out).mono ?_); (case side1 => exact HR0.out); (case side2 => exact HC0.out); (case side3 => exact HR1.out); (case side4 => exact HC1.out); rintro e w9 ⟨rfl, hb⟩; refine ⟨_, rfl, ?_⟩; have n0_ := Aside0.mk (below_step (by repeat (first | exact HB.out | apply below_alloc | apply pw_below_drewN | apply below_drew1)) hb); clear HB; have HB := n0_; clear n0_; (try clear hb); (try clear hb2); (try clear hk); (try clear hi)));go_ret2;exact ⟨_, by first | rfl | (simp [errW_none, errW_some] <;> rfl) | (simp [*, errW_none, errW_some] <;> rfl), by first | exact Kd.S_nil _ _ _ _ _ | exact Kd.N_nil _ _ _ _ _ | exact Kd.V_nil _ _ _ _ _ | exact Kd.Q_nil _ _ _ _ _ | exact Kd.R_nil _ _ _ _ _, by repeat (first | exact HB.out | apply below_alloc | apply pw_below_drewN | apply below_drew1)⟩

/-! ### laws_b10Nums: function 10 -/
def laws_b10Nums.l0 : Nat → List Int → List Int → Int → Option (Bool)
  | 0, _, _, _ => none
  | k + 1, x0, x1, x5 => if x5 < (x0.length : Int) then (if 0 ≤ x5 then (if x5 < (x1.length : Int) then (if (rd x0 x5) = (rd x1 x5) then (laws_b10Nums.l0 k x0 x1 (wrap64 (x5 + 1))) else (some false)) else (none)) else (none)) else (some true)
def laws_b10Nums.f (k : Nat) (l0 : List Int) (l1 : List Int) : Option (Bool) := if (l0.length : Int) = (l1.length : Int) then (laws_b10Nums.l0 k l0 l1 0) else (some false)
theorem laws_b10Nums.mono_l : ∀ k, (∀ y0 y1 y2, LeO (laws_b10Nums.l0 k y0 y1 y2) (laws_b10Nums.l0 (k + 1) y0 y1 y2))
  | 0 => fun _ _ _ r h => by simp [laws_b10Nums.l0] at h
  | k + 1 => by
    have ih0 := laws_b10Nums.mono_l k
    · intro y0 y1 y2
      unfold laws_b10Nums.l0
      repeat' first
      | (with_reducible exact ih0 _ _ _)
      | (with_reducible exact LeO.refl _)
      | (with_reducible exact LeO.none _)
      | (with_reducible refine LeO.ite ?_ ?_)
      | (with_reducible refine LeO.bind ?_ (fun _ => ?_))
      | exact ih0 _ _ _
      | exact LeO.none _
      | refine LeO.ite ?_ ?_
      | refine LeO.bind ?_ (fun _ => ?_)
theorem laws_b10Nums.mono : ∀ a0 a1 k, LeO (laws_b10Nums.f k a0 a1) (laws_b10Nums.f (k + 1) a0 a1) := by
  intro a0 a1 k;have ih0 := laws_b10Nums.mono_l k;unfold laws_b10Nums.f
  repeat' first
      | (with_reducible exact ih0 _ _ _)
      | (with_reducible exact LeO.refl _)
      | (with_reducible exact LeO.none _)
      | (with_reducible refine LeO.ite ?_ ?_)
      | (with_reducible refine LeO.bind ?_ (fun _ => ?_))
      | exact ih0 _ _ _
      | exact LeO.none _
      | refine LeO.ite ?_ ?_
      | refine LeO.bind ?_ (fun _ => ?_)
set_option maxHeartbeats 8000000 in
set_option maxRecDepth 100000 in
theorem laws_b10Nums.calls (k : Nat) (A0 : Option Addr) (c0 : Nat) (l0 : List Int) (A1 : Option Addr) (c1 : Nat) (l1 : List Int) (r : Bool) (w : World) (hr0 : Kd.C (Kd.int .i64) w A0 l0.length l0) (hc0 : l0.length ≤ c0) (hr1 : Kd.C (Kd.int .i64) w A1 l1.length l1) (hc1 : l1.length ≤ c1) (h : laws_b10Nums.f k l0 l1 = some r) :
    Calls Try.prog 10 #[.slice A0 l0.length c0, .slice A1 l1.length c1] w fun e w' => e = .returned (.bool r) ∧ Drawn0 w w' := by
  have HR0 := Aside0.mk hr0;have HC0 := Aside0.mk hc0;clear hr0 hc0;have HR1 := Aside0.mk hr1;have HC1 := Aside0.mk hc1;clear hr1 hc1;have H : (if (l0.length : Int) = (l1.length : Int) then (laws_b10Nums.l0 k l0 l1 0) else (some false)) = some r := h;clear h;by_cases c3 : (l0.length : Int) = (l1.length : Int)
  · rw [if_pos c3] at H
    have c3b0 : ((l0.length : Int) == (l1.length : Int)) = true := beq_iff_eq.mpr c3;have c3b1 : ((l0.length : Int) != (l1.length : Int)) = false := bne_eq_false_iff_eq.mpr c3
    have c3b2 : (l0.length == l1.length) = true := by first | simpa using c3 | (simp at c3 ⊢; omega)
    clear c3;have H' := Aside0.mk H;clear H;go_enter Try.func10, Try.ntmps10;go_wp2;(repeat (go_quiet (fail); try go_wp2));go_loopg [5] k (fun kq v5 w' => ∃ (x5_1 : Int), v5 = .int .i64 x5_1 ∧ Aside0 (laws_b10Nums.l0 kq l0 l1 x5_1 = some r) ∧ Aside0 (kq ≤ k) ∧ Drawn0 w w')
    case atStart => exact ⟨(0), (by first | rfl | (simp; done) | (simp [*]; done)), H', ⟨Nat.le_refl _⟩, by repeat (first | exact Drawn0.refl _ | apply Drawn0.step)⟩
    case round =>
      clear H';(try clear c1);(try clear p2);(try clear c3);(try clear c3b0);(try clear c3b1);(try clear c3b2);obtain ⟨x5_1, rfl, HA, HK1, ⟨m1, rfl⟩⟩ := hrel
      cases gk with
      | zero => exact absurd HA.out (by simp [laws_b10Nums.l0])
      | succ k1 =>
        have H := HA.out;clear HA;simp only [laws_b10Nums.l0] at H;by_cases c4 : x5_1 < (l0.length : Int)
        · rw [if_pos c4] at H
          have c4b0 : decide (x5_1 < (l0.length : Int)) = true := decide_eq_true c4;clear c4;by_cases c5 : 0 ≤ x5_1
          · rw [if_pos c5] at H
            have c5b0 : decide (0 ≤ x5_1) = true := decide_eq_true c5;clear c5;by_cases c6 : x5_1 < (l1.length : Int)
            · rw [if_pos c6] at H
              have c6b0 : decide (x5_1 < (l1.length : Int)) = true := decide_eq_true c6;clear c6;by_cases c7 : (rd l0 x5_1) = (rd l1 x5_1)
              · rw [if_pos c7] at H
                have c7b0 : ((rd l0 x5_1) == (rd l1 x5_1)) = true := beq_iff_eq.mpr c7;have c7b1 : ((rd l0 x5_1) != (rd l1 x5_1)) = false := bne_eq_false_iff_eq.mpr c7;clear c7;have H' := Aside0.mk H;clear H;have p317 : 0 ≤ (x5_1 : Int) := of_decide_eq_true (by assumption);have q317 : x5_1 < (l0.length : Int) := of_decide_eq_true (by assumption);obtain ⟨ad317, e317, hx317_0⟩ := Kd.at_int HR0.out x5_1 p317 q317
                cases e317
                replace p317 := eq_true p317;replace q317 := eq_true q317;have p318 : 0 ≤ (x5_1 : Int) := of_decide_eq_true (by assumption);have q318 : x5_1 < (l1.length : Int) := of_decide_eq_true (by assumption);obtain ⟨ad318, e318, hx318_0⟩ := Kd.at_int HR1.out x5_1 p318 q318
                cases e318
                replace p318 := eq_true p318;replace q318 := eq_true q318;go_wp2;(repeat (go_quiet (fail); try go_wp2));go_roundg k1
                case measure => have := HK1.out; omega
                case rel => exact ⟨(wrap64 (x5_1 + 1)), (by first | rfl | (simp; done) | (simp [*]; done)), H', ⟨by have := HK1.out; omega⟩, by repeat (first | exact Drawn0.refl _ | apply Drawn0.step)⟩
              · rw [if_neg c7] at H
                have c7b0 : ((rd l0 x5_1) == (rd l1 x5_1)) = false := beq_eq_false_iff_ne.mpr c7;have c7b1 : ((rd l0 x5_1) != (rd l1 x5_1)) = true := bne_iff_ne.mpr c7;obtain rfl := Option.some.inj H;have p317 : 0 ≤ (x5_1 : Int) := of_decide_eq_true (by assumption);have q317 : x5_1 < (l0.length : Int) := of_decide_eq_true (by assumption);obtain ⟨ad317, e317, hx317_0⟩ := Kd.at_int HR0.out x5_1 p317 q317
                cases e317
                replace p317 := eq_true p317;replace q317 := eq_true q317;have p318 : 0 ≤ (x5_1 : Int) := of_decide_eq_true (by assumption);have q318 : x5_1 < (l1.length : Int) := of_decide_eq_true (by assumption);obtain ⟨ad318, e318, hx318_0⟩ := Kd.at_int HR1.out x5_1 p318 q318
                cases e318
                replace p318 := eq_true p318;replace q318 := eq_true q318;go_wp2;(repeat (go_quiet (fail); try go_wp2));go_ret;exact ⟨by first | rfl | (simp; done) | (simp [*]; done), by repeat (first | exact Drawn0.refl _ | apply Drawn0.step)⟩
            · rw [if_neg c6] at H
              exact absurd H (by simp)
          · rw [if_neg c5] at H
            exact absurd H (by simp)
        · rw [if_neg c4] at H
          have c4b0 : decide (x5_1 < (l0.length : Int)) = false := decide_eq_false c4;clear c4;obtain rfl := Option.some.inj H;go_wp2;(repeat (go_quiet (fail); try go_wp2));go_ret;exact ⟨by first | rfl | (simp; done) | (simp [*]; done), by repeat (first | exact Drawn0.refl _ | apply Drawn0.step)⟩
  · rw [if_neg c3] at H
    have c3b0 : ((l0.length : Int) == (l1.length : Int)) = false := beq_eq_false_iff_ne.mpr c3;have c3b1 : ((l0.length : Int) != (l1.length : Int)) = true := bne_iff_ne.mpr c3
    have c3b2 : (l0.length == l1.length) = false := by first | simpa using c3 | (simp at c3 ⊢; omega)
    obtain rfl := Option.some.inj H;go_enter Try.func10, Try.ntmps10;go_wp2;(repeat (go_quiet (fail); try go_wp2));go_ret;exact ⟨by first | rfl | (simp; done) | (simp [*]; done), by repeat (first | exact Drawn0.refl _ | apply Drawn0.step)⟩

/-! ### impl_unitsOfComposed: function 54 -/
def impl_unitsOfComposed.l0 : Nat → List (S93) → Int → List Int → Int → Int → Option (Int)
  | 0, _, _, _, _, _ => none
  | k + 1, x0, x5, x8, x9, x10 => if x10 < x9 then (if 0 ≤ x10 then (if x10 < (x8.length : Int) then (if 0 ≤ (rd x8 x10) then (if (rd x8 x10) < (x0.length : Int) then (impl_unitsOfComposed.l0 k x0 (wrap64 (x5 + ((rd_T93 x0 (rd x8 x10)).f2))) x8 x9 (wrap64 (x10 + 1))) else (none)) else (none)) else (none)) else (none)) else (some x5)
def impl_unitsOfComposed.f (k : Nat) (l0 : List (S93)) (l1 : List Int) : Option (Int) := impl_unitsOfComposed.l0 k l0 0 l1 (l1.length : Int) 0
theorem impl_unitsOfComposed.mono_l : ∀ k, (∀ y0 y1 y2 y3 y4, LeO (impl_unitsOfComposed.l0 k y0 y1 y2 y3 y4) (impl_unitsOfComposed.l0 (k + 1) y0 y1 y2 y3 y4))
  | 0 => fun _ _ _ _ _ r h => by simp [impl_unitsOfComposed.l0] at h
  | k + 1 => by
    have ih0 := impl_unitsOfComposed.mono_l k
    · intro y0 y1 y2 y3 y4
      unfold impl_unitsOfComposed.l0
      repeat' first
      | (with_reducible exact ih0 _ _ _ _ _)
      | (with_reducible exact LeO.refl _)
      | (with_reducible exact LeO.none _)
      | (with_reducible refine LeO.ite ?_ ?_)
      | (with_reducible refine LeO.bind ?_ (fun _ => ?_))
      | exact ih0 _ _ _ _ _
      | exact LeO.none _
      | refine LeO.ite ?_ ?_
      | refine LeO.bind ?_ (fun _ => ?_)
theorem impl_unitsOfComposed.mono : ∀ a0 a1 k, LeO (impl_unitsOfComposed.f k a0 a1) (impl_unitsOfComposed.f (k + 1) a0 a1) := by
  intro a0 a1 k;have ih0 := impl_unitsOfComposed.mono_l k;unfold impl_unitsOfComposed.f
  repeat' first
      | (with_reducible exact ih0 _ _ _ _ _)
      | (with_reducible exact LeO.refl _)
      | (with_reducible exact LeO.none _)
      | (with_reducible refine LeO.ite ?_ ?_)
      | (with_reducible refine LeO.bind ?_ (fun _ => ?_))
      | exact ih0 _ _ _ _ _
      | exact LeO.none _
      | refine LeO.ite ?_ ?_
      | refine LeO.bind ?_ (fun _ => ?_)
set_option maxHeartbeats 8000000 in
set_option maxRecDepth 100000 in
theorem impl_unitsOfComposed.calls (k : Nat) (A0 : Option Addr) (c0 : Nat) (l0 : List (S93)) (A1 : Option Addr) (c1 : Nat) (l1 : List Int) (r : Int) (w : World) (hr0 : Kd.C k93 w A0 l0.length l0) (hc0 : l0.length ≤ c0) (hr1 : Kd.C (Kd.int .i64) w A1 l1.length l1) (hc1 : l1.length ≤ c1) (h : impl_unitsOfComposed.f k l0 l1 = some r) :
    Calls Try.prog 54 #[.slice A0 l0.length c0, .slice A1 l1.length c1] w fun e w' => e = .returned (.int .i64 r) ∧ Drawn0 w w' := by
  have HR0 := Aside0.mk hr0;have HC0 := Aside0.mk hc0;clear hr0 hc0;have HR1 := Aside0.mk hr1;have HC1 := Aside0.mk hc1;clear hr1 hc1;have H : (impl_unitsOfComposed.l0 k l0 0 l1 (l1.length : Int) 0) = some r := h;clear h;have H' := Aside0.mk H;clear H;go_enter Try.func54, Try.ntmps54;go_wp2;go_loopg [5, 10] k (fun kq v5 v10 w' => ∃ (x5_1 : Int) (x10_1 : Int), v5 = .int .i64 x5_1 ∧ v10 = .int .i64 x10_1 ∧ Aside0 (impl_unitsOfComposed.l0 kq l0 x5_1 l1 (l1.length : Int) x10_1 = some r) ∧ Aside0 (kq ≤ k) ∧ Drawn0 w w')
  case atStart => exact ⟨(0), (0), (by first | rfl | (simp; done) | (simp [*]; done)), (by first | rfl | (simp; done) | (simp [*]; done)), H', ⟨Nat.le_refl _⟩, by repeat (first | exact Drawn0.refl _ | apply Drawn0.step)⟩
  case round =>
    clear H';(try clear c1);(try clear p2);obtain ⟨x5_1, x10_1, rfl, rfl, HA, HK1, ⟨m1, rfl⟩⟩ := hrel
    cases gk with
    | zero => exact absurd HA.out (by simp [impl_unitsOfComposed.l0])
    | succ k1 =>
      have H := HA.out;clear HA;simp only [impl_unitsOfComposed.l0] at H;by_cases c3 : x10_1 < (l1.length : Int)
      · rw [if_pos c3] at H
        have c3b0 : decide (x10_1 < (l1.length : Int)) = true := decide_eq_true c3;clear c3;by_cases c4 : 0 ≤ x10_1
        · rw [if_pos c4] at H
          have c4b0 : decide (0 ≤ x10_1) = true := decide_eq_true c4;clear c4;by_cases c5 : x10_1 < (l1.length : Int)
          · rw [if_pos c5] at H
            have c5b0 : decide (x10_1 < (l1.length : Int)) = true := decide_eq_true c5;clear c5;by_cases c6 : 0 ≤ (rd l1 x10_1)
            · rw [if_pos c6] at H
              have c6b0 : decide (0 ≤ (rd l1 x10_1)) = true := decide_eq_true c6;clear c6;by_cases c7 : (rd l1 x10_1) < (l0.length : Int)
              · rw [if_pos c7] at H
                have c7b0 : decide ((rd l1 x10_1) < (l0.length : Int)) = true := decide_eq_true c7;clear c7;have H' := Aside0.mk H;clear H;have p319 : 0 ≤ (x10_1 : Int) := of_decide_eq_true (by assumption);have q319 : x10_1 < (l1.length : Int) := of_decide_eq_true (by assumption);obtain ⟨ad319, e319, hx319_0⟩ := Kd.at_int HR1.out x10_1 p319 q319
                cases e319
                replace p319 := eq_true p319;replace q319 := eq_true q319;have p320 : 0 ≤ ((rd l1 x10_1) : Int) := of_decide_eq_true (by assumption);have q320 : (rd l1 x10_1) < (l0.length : Int) := of_decide_eq_true (by assumption);obtain ⟨ad320, e320, hx320_0, hx320_1, hx320_2⟩ := at_T93 HR0.out (rd l1 x10_1) p320 q320
                cases e320
                replace p320 := eq_true p320;replace q320 := eq_true q320;go_wp2;go_roundg k1
                case measure => have := HK1.out; omega
                case rel => exact ⟨(wrap64 (x5_1 + ((rd_T93 l0 (rd l1 x10_1)).f2))), (wrap64 (x10_1 + 1)), (by first | rfl | (simp; done) | (simp [*]; done)), (by first | rfl | (simp; done) | (simp [*]; done)), H', ⟨by have := HK1.out; omega⟩, by repeat (first | exact Drawn0.refl _ | apply Drawn0.step)⟩
              · rw [if_neg c7] at H
                exact absurd H (by simp)
            · rw [if_neg c6] at H
              exact absurd H (by simp)
          · rw [if_neg c5] at H
            exact absurd H (by simp)
        · rw [if_neg c4] at H
          exact absurd H (by simp)
      · rw [if_neg c3] at H
        have c3b0 : decide (x10_1 < (l1.length : Int)) = false := decide_eq_false c3;clear c3;obtain rfl := Option.some.inj H;go_wp2;go_ret;exact ⟨by first | rfl | (simp; done) | (simp [*]; done), by repeat (first | exact Drawn0.refl _ | apply Drawn0.step)⟩

/-! ### slices_Index_int64_int64: function 99 -/
def slices_Index_int64_int64.l0 : Nat → List Int → Int → Int → Int → Option (Int)
  | 0, _, _, _, _ => none
  | k + 1, x0, x1, x7, x8 => if x8 < x7 then (if 0 ≤ x8 then (if x8 < (x0.length : Int) then (if x1 = (rd x0 x8) then (some x8) else (slices_Index_int64_int64.l0 k x0 x1 x7 (wrap64 (x8 + 1)))) else (none)) else (none)) else (some (-1))
def slices_Index_int64_int64.f (k : Nat) (l0 : List Int) (a1 : Int) : Option (Int) := slices_Index_int64_int64.l0 k l0 a1 (l0.length : Int) 0
theorem slices_Index_int64_int64.mono_l : ∀ k, (∀ y0 y1 y2 y3, LeO (slices_Index_int64_int64.l0 k y0 y1 y2 y3) (slices_Index_int64_int64.l0 (k + 1) y0 y1 y2 y3))
  | 0 => fun _ _ _ _ r h => by simp [slices_Index_int64_int64.l0] at h
  | k + 1 => by
    have ih0 := slices_Index_int64_int64.mono_l k
    · intro y0 y1 y2 y3
      unfold slices_Index_int64_int64.l0
      repeat' first
      | (with_reducible exact ih0 _ _ _ _)
      | (with_reducible exact LeO.refl _)
      | (with_reducible exact LeO.none _)
      | (with_reducible refine LeO.ite ?_ ?_)
      | (with_reducible refine LeO.bind ?_ (fun _ => ?_))
      | exact ih0 _ _ _ _
      | exact LeO.none _
      | refine LeO.ite ?_ ?_
      | refine LeO.bind ?_ (fun _ => ?_)
theorem slices_Index_int64_int64.mono : ∀ a0 a1 k, LeO (slices_Index_int64_int64.f k a0 a1) (slices_Index_int64_int64.f (k + 1) a0 a1) := by
  intro a0 a1 k;have ih0 := slices_Index_int64_int64.mono_l k;unfold slices_Index_int64_int64.f
  repeat' first
      | (with_reducible exact ih0 _ _ _ _)
      | (with_reducible exact LeO.refl _)
      | (with_reducible exact LeO.none _)
      | (with_reducible refine LeO.ite ?_ ?_)
      | (with_reducible refine LeO.bind ?_ (fun _ => ?_))
      | exact ih0 _ _ _ _
      | exact LeO.none _
      | refine LeO.ite ?_ ?_
      | refine LeO.bind ?_ (fun _ => ?_)
set_option maxHeartbeats 8000000 in
set_option maxRecDepth 100000 in
theorem slices_Index_int64_int64.calls (k : Nat) (A0 : Option Addr) (c0 : Nat) (l0 : List Int) (a1 : Int) (r : Int) (w : World) (hr0 : Kd.C (Kd.int .i64) w A0 l0.length l0) (hc0 : l0.length ≤ c0) (h : slices_Index_int64_int64.f k l0 a1 = some r) :
    Calls Try.prog 99 #[.slice A0 l0.length c0, .int .i64 a1] w fun e w' => e = .returned (.int .i64 r) ∧ Drawn0 w w' := by
  have HR0 := Aside0.mk hr0;have HC0 := Aside0.mk hc0;clear hr0 hc0;have H : (slices_Index_int64_int64.l0 k l0 a1 (l0.length : Int) 0) = some r := h;clear h;have H' := Aside0.mk H;clear H;go_enter Try.func99, Try.ntmps99;go_wp2;go_loopg [8] k (fun kq v8 w' => ∃ (x8_1 : Int), v8 = .int .i64 x8_1 ∧ Aside0 (slices_Index_int64_int64.l0 kq l0 a1 (l0.length : Int) x8_1 = some r) ∧ Aside0 (kq ≤ k) ∧ Drawn0 w w')
  case atStart => exact ⟨(0), (by first | rfl | (simp; done) | (simp [*]; done)), H', ⟨Nat.le_refl _⟩, by repeat (first | exact Drawn0.refl _ | apply Drawn0.step)⟩
  case round =>
    clear H';(try clear p2);obtain ⟨x8_1, rfl, HA, HK1, ⟨m1, rfl⟩⟩ := hrel
    cases gk with
    | zero => exact absurd HA.out (by simp [slices_Index_int64_int64.l0])
    | succ k1 =>
      have H := HA.out;clear HA;simp only [slices_Index_int64_int64.l0] at H;by_cases c3 : x8_1 < (l0.length : Int)
      · rw [if_pos c3] at H
        have c3b0 : decide (x8_1 < (l0.length : Int)) = true := decide_eq_true c3;clear c3;by_cases c4 : 0 ≤ x8_1
        · rw [if_pos c4] at H
          have c4b0 : decide (0 ≤ x8_1) = true := decide_eq_true c4;clear c4;by_cases c5 : x8_1 < (l0.length : Int)
          · rw [if_pos c5] at H
            have c5b0 : decide (x8_1 < (l0.length : Int)) = true := decide_eq_true c5;clear c5;by_cases c6 : a1 = (rd l0 x8_1)
            · rw [if_pos c6] at H
              have c6b0 : (a1 == (rd l0 x8_1)) = true := beq_iff_eq.mpr c6;have c6b1 : (a1 != (rd l0 x8_1)) = false := bne_eq_false_iff_eq.mpr c6;clear c6;obtain rfl := Option.some.inj H;have p321 : 0 ≤ (x8_1 : Int) := of_decide_eq_true (by assumption);have q321 : x8_1 < (l0.length : Int) := of_decide_eq_true (by assumption);obtain ⟨ad321, e321, hx321_0⟩ := Kd.at_int HR0.out x8_1 p321 q321
              cases e321
              replace p321 := eq_true p321;replace q321 := eq_true q321;go_wp2;go_ret;exact ⟨by first | rfl | (simp; done) | (simp [*]; done), by repeat (first | exact Drawn0.refl _ | apply Drawn0.step)⟩
            · rw [if_neg c6] at H
              have c6b0 : (a1 == (rd l0 x8_1)) = false := beq_eq_false_iff_ne.mpr c6;have c6b1 : (a1 != (rd l0 x8_1)) = true := bne_iff_ne.mpr c6;have H' := Aside0.mk H;clear H;have p321 : 0 ≤ (x8_1 : Int) := of_decide_eq_true (by assumption);have q321 : x8_1 < (l0.length : Int) := of_decide_eq_true (by assumption);obtain ⟨ad321, e321, hx321_0⟩ := Kd.at_int HR0.out x8_1 p321 q321
              cases e321
              replace p321 := eq_true p321;replace q321 := eq_true q321;go_wp2;go_roundg k1
              case measure => have := HK1.out; omega
              case rel => exact ⟨(wrap64 (x8_1 + 1)), (by first | rfl | (simp; done) | (simp [*]; done)), H', ⟨by have := HK1.out; omega⟩, by repeat (first | exact Drawn0.refl _ | apply Drawn0.step)⟩
          · rw [if_neg c5] at H
            exact absurd H (by simp)
        · rw [if_neg c4] at H
          exact absurd H (by simp)
      · rw [if_neg c3] at H
        have c3b0 : decide (x8_1 < (l0.length : Int)) = false := decide_eq_false c3;clear c3;obtain rfl := Option.some.inj H;go_wp2;go_ret;exact ⟨by first | rfl | (simp; done) | (simp [*]; done), by repeat (first | exact Drawn0.refl _ | apply Drawn0.step)⟩

end Go.Proofs.Ytagjleeckbnddaa.PFnThemes
