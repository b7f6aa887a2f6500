/- General words of this repo, over the print's own words: from some number of rounds on (Ev), wraps that do nothing, and how an argument that reads as data is told as a kind (Opens). No condition. -/
import Derived.Test.YtagjleeckbnddaaWMore
import Derived.Test.YtagjleeckbnddaaWTab
import Derived.ChangeShapes
import Derived.ChangeArms
import Derived.DataReads
import Derived.Shelf.Abstract
namespace Go.Proofs.YtagjleeckbnddaaXW
open Go.RowKit Go.Proofs.YtagjleeckbnddaaW.PrintWords Go.Proofs.YtagjleeckbnddaaW.PrintLast Go.Proofs.YtagjleeckbnddaaW.PrintMore

theorem Ev.shift {α : Type} {g : Nat → Option α} {r : α} (h : Ev (fun k => g (k + 1)) r) : Ev g r := Ev.step (fun _ => rfl) h
theorem Ev.pos {α : Type} {c : Prop} [Decidable c] {f g : Nat → Option α} {r : α} (h : c) (k : Ev f r) : Ev (fun n => if c then f n else g n) r := by
  simpa only [if_pos h] using k
theorem Ev.neg {α : Type} {c : Prop} [Decidable c] {f g : Nat → Option α} {r : α} (h : ¬ c) (k : Ev g r) : Ev (fun n => if c then f n else g n) r := by
  simpa only [if_neg h] using k
theorem Ev.same {α : Type} {g : Nat → Option α} {r r' : α} (h : Ev g r) (e : r = r') : Ev g r' := e ▸ h
theorem Ev.some {α : Type} {o : Option α} {r : α} (h : o = some r) : Ev (fun _ => o) r := ⟨0, fun _ _ => h⟩

theorem wid {x : Int} (h : -9223372036854775808 ≤ x ∧ x ≤ 9223372036854775807) : wrap64 x = x := by
  unfold wrap64; omega
theorem rd_nat (l : List Int) (k : Nat) : rd l (k : Int) = l.getD k 0 := by unfold rd; rw [Int.toNat_natCast]
theorem rd_get (l : List Int) (k : Nat) (h : k < l.length) : rd l (k : Int) = l[k] := by
  rw [rd_nat, List.getD_eq_getElem?_getD, List.getElem?_eq_getElem h, Option.getD_some]

def allF (Q : Nat → Bool) (n i : Nat) : Bool := decide (∀ j, j < n → i ≤ j → Q j = true)
theorem allF_end (Q : Nat → Bool) {n i : Nat} (h : n ≤ i) : allF Q n i = true := by
  unfold allF; exact decide_eq_true fun j h1 h2 => absurd h1 (by omega)
theorem allF_yes (Q : Nat → Bool) {n i : Nat} (h : Q i = true) : allF Q n i = allF Q n (i + 1) := by
  unfold allF
  rw [decide_eq_decide]
  constructor
  · intro a j h1 h2; exact a j h1 (by omega)
  · intro a j h1 h2
    by_cases e : j = i
    · rw [e]; exact h
    · exact a j h1 (by omega)
theorem allF_no (Q : Nat → Bool) {n i : Nat} (hi : i < n) (h : Q i = false) : allF Q n i = false := by
  unfold allF
  refine decide_eq_false fun a => ?_
  rw [a i hi (Nat.le_refl _)] at h
  cases h
theorem allF_iff (Q : Nat → Bool) {n i : Nat} : allF Q n i = true ↔ ∀ j, j < n → i ≤ j → Q j = true := by
  unfold allF; exact decide_eq_true_iff
theorem all_iff_get (l : List Int) (p : Int → Bool) : l.all p = true ↔ ∀ j, j < l.length → p (l.getD j 0) = true := by
  rw [List.all_eq_true]
  constructor
  · intro h j hj
    rw [List.getD_eq_getElem?_getD, List.getElem?_eq_getElem hj, Option.getD_some]
    exact h _ (List.getElem_mem hj)
  · intro h x hx
    obtain ⟨j, hj, rfl⟩ := List.getElem_of_mem hx
    have := h j hj
    rwa [List.getD_eq_getElem?_getD, List.getElem?_eq_getElem hj, Option.getD_some] at this

def Opens {α : Type} (P : Program) (t : TypeId) (d : Kd α) (good : α → Prop) : Prop :=
  P.cellsOf t = d.sz ∧ ∀ (H : Type) (enc : TypeId × Value → H) (w : World) (base : Nat) (sp : Nat → Bool) (hd : Bool) (fuel : Nat) (cs : List Value) (x : DataW H × List MemPlace), DataW.trod enc P w base sp hd fuel t cs = some x → ∃ y, d.K w y cs ∧ good y
section
variable {P : Program} {t e : TypeId} {α β γ δ : Type}
theorem Opens.int {k : IntKind} (ht : P.underlying t = some (.int k)) (hc : P.cellsOf t = 1) : Opens P t (Kd.int k) (fun n => (Lit.int k n).wf = true) :=
  ⟨hc, fun H enc w base sp hd fuel cs x h => by
    obtain ⟨n, rfl, _, hw⟩ := DataW.trod_int ht h
    exact ⟨n, rfl, hw⟩⟩
theorem Opens.bool (ht : P.underlying t = some .bool) (hc : P.cellsOf t = 1) : Opens P t Kd.bool (fun _ => True) :=
  ⟨hc, fun H enc w base sp hd fuel cs x h => by
    obtain ⟨b, rfl, _⟩ := DataW.trod_bool ht h
    exact ⟨b, rfl, trivial⟩⟩
theorem Opens.string (ht : P.underlying t = some .string) (hc : P.cellsOf t = 1) : Opens P t Kd.string (fun s => s.size ≤ maxLen) :=
  ⟨hc, fun H enc w base sp hd fuel cs x h => by
    obtain ⟨s, rfl, _, hs⟩ := DataW.trod_string ht h
    exact ⟨s, rfl, hs⟩⟩
theorem Opens.slice {d : Kd α} {good : α → Prop} (he : Opens P e d good) (ht : P.underlying t = some (.slice e)) (hc : P.cellsOf t = 1) : Opens P t (Kd.slice e d) (fun xs => xs.length ≤ maxLen ∧ ∀ x ∈ xs, good x) :=
  ⟨hc, fun H enc w base sp hd fuel cs x h => by
    rcases DataW.trod_slice ht h with ⟨rfl, _⟩ | ⟨a, len, cap, elems, rest, n, _, rfl, rfl, hb, hl, hm, hlen, hel, _, _⟩
    · exact ⟨[], ⟨none, 0, rfl, Nat.le_refl _, Kd.C_nil d w⟩, Nat.zero_le _, fun x hx => by cases hx⟩
    · have each : ∀ i : Fin len, ∃ y c, d.K w y c ∧ good y ∧ w.cells? base (a.add (i.1 * P.cellsOf e)) (P.cellsOf e) = some c := by
        intro i
        have h1 := hel i.1 i.2
        rw [List.getElem?_eq_getElem (by omega), Option.bind_eq_some_iff] at h1
        obtain ⟨c, hcc, hy⟩ := h1
        obtain ⟨y, hk, hg⟩ := he.2 _ _ _ _ _ _ _ _ _ hy
        exact ⟨y, c, hk, hg, hcc⟩
      refine ⟨List.ofFn fun i => (each i).choose, ⟨some a, cap, ?_, ?_, ?_⟩, ?_, ?_⟩
      · rw [List.length_ofFn]
      · rw [List.length_ofFn]; exact hl
      · refine ⟨by rw [List.length_ofFn], by rw [List.length_ofFn]; unfold maxLen at hm; omega, fun _ => ⟨a, rfl, fun j p hj => ?_⟩⟩
        have hjl : j < len := by have := (List.getElem?_eq_some_iff.1 hj).1; rwa [List.length_ofFn] at this
        have hp : p = (each ⟨j, hjl⟩).choose := by
          rw [List.getElem?_ofFn, dif_pos hjl] at hj
          exact (Option.some.inj hj).symm
        obtain ⟨c, hk, _, hcc⟩ := (each ⟨j, hjl⟩).choose_spec
        obtain ⟨_, hlc, hcell⟩ := World.cells?_some hcc
        refine ⟨c, by rw [hlc, he.1], hp ▸ hk, fun i u hu => ?_⟩
        have hi : i < c.length := (List.getElem?_eq_some_iff.1 hu).1
        have h2 := hcell i (by omega)
        rw [hu, he.1] at h2
        have ea : (a.add (j * d.sz)).add i = a.add (j * d.sz + i) := by
          cases a
          by_cases h1 : i = 0 <;> by_cases h2 : j * d.sz = 0 <;> simp [Addr.add, h1, h2, Nat.add_assoc]
        rw [← ea]
        exact h2
      · rw [List.length_ofFn]; omega
      · intro y hy
        obtain ⟨i, rfl⟩ := List.mem_ofFn.1 hy
        obtain ⟨c, _, hg, _⟩ := (each i).choose_spec
        exact hg⟩
theorem Opens.iso {d : Kd α} {good : α → Prop} {f : β → α} (h : Opens P t d good) (g : α → β) (hg : ∀ a, f (g a) = a) : Opens P t (Kd.iso d f) (fun x => good (f x)) :=
  ⟨h.1, fun H enc w base sp hd fuel cs x hx => by
    obtain ⟨y, k, e⟩ := h.2 _ _ _ _ _ _ _ _ _ hx
    refine ⟨g y, ?_, ?_⟩
    · show d.K w (f (g y)) cs
      rw [hg]; exact k
    · show good (f (g y))
      rw [hg]; exact e⟩
end
section
variable {P : Program} {ops : Array Oper} {Q : Exit → Act → World → Prop} {md : Region.Mode} {S : World → Prop} {ds : List Nat} {T : Bool × List (List Nat × List Nat)}
def undB (ops : Array Oper) : Act → List (Nat × Nat) → Bool
  | _, [] => true
  | a, x :: r => (match ops[x.1]? with
    | some oi => decide (oi.dst = some x.2) && !(Region.wanted oi (yielded ops a.tmps))
    | none => false) && undB ops (a.put (some x.2) undef) r
def anysT (T : Bool × List (List Nat × List Nat)) : List Bool → List (Nat × Nat) → List Bool → Bool
  | l, [], l' => l == l'
  | l, x :: r, l' => (T.1 && freeT T.2 l x.1 && readyAt T.2 l x.1) && anysT T (l.set x.1 true) r l'
def putU : Act → List (Nat × Nat) → Act
  | a, [] => a
  | a, x :: r => putU (a.put (some x.2) undef) r
theorem unds_ (is : List (Nat × Nat)) : ∀ {n : Nat} {l : Array Bool} {a a' : Act} {w : World} (m : Nat) (l' : Array Bool) (_ : rtab md ops = T) (_ : anysT T l.toList is l'.toList = true) (_ : undB ops a is = true) (_ : ∀ (v : Value) (N : Tmp) c a w, Q (.panic c) (a.put (some N) v) w → Q (.panic c) a w) (_ : n = m + is.length) (_ : putU a is = a') (_ : wpAnyLast P md ops Q S ds m l' a' w), wpAnyLast P md ops Q S ds n l a w := by
  induction is with
  | nil =>
    intro n l a a' w m l' hT h hu hQ hn ha k
    subst hn
    subst ha
    have e : l = l' := by
      apply Array.ext'
      simpa [anysT] using h
    subst e
    exact k
  | cons x r ih =>
    intro n l a a' w m l' hT h hu hQ hn ha k
    subst hn
    simp only [undB, Bool.and_eq_true] at hu
    obtain ⟨hu, hr⟩ := hu
    cases h1 : ops[x.1]? with
    | none => rw [h1] at hu; cases hu
    | some oi =>
    rw [h1] at hu
    simp only [Bool.and_eq_true, decide_eq_true_eq, Bool.not_eq_true'] at hu
    obtain ⟨h2, h3⟩ := hu
    simp only [anysT, Bool.and_eq_true] at h
    refine pure_ (l.setIfInBounds x.1 true) h1 h2 (any_of hT ?_) (fun c a w h => hQ _ _ c a w (h2 ▸ h)) (Or.inr ⟨h3, rfl⟩) rfl (ih m l' hT ?_ hr hQ rfl ha k)
    · simp only [anyT, Bool.and_eq_true]
      exact ⟨h.1, by simp⟩
    · rw [Array.toList_setIfInBounds]
      exact h.2
theorem val_ {oi : Oper} {v : Value} {n : Nat} {l : Array Bool} {a : Act} {w : World} (i N : Nat) (l' : Array Bool) (hi : ops[i]? = some oi) (hN : oi.dst = some N) (hT : rtab md ops = T) (h : anyT T l.toList l'.toList i = true) (hw : Region.wanted oi (yielded ops a.tmps) = true)
    (hQ : ∀ c a w, Q (.panic c) (a.put oi.dst v) w → Q (.panic c) a w) (hy : ∀ w, (execOp a.eval oi).run P w = .ok (.value v) w) {a' : Act} (ha : a.put (some N) v = a') (k : wpAnyLast P md ops Q S ds n l' a' w) : wpAnyLast P md ops Q S ds (n + 1) l a w :=
  pure_ l' hi hN (any_of hT h) hQ (Or.inl ⟨hw, hy⟩) ha k
end
set_option linter.unusedVariables false
section
variable {P : Program} {ops : Array Oper} {rest : List Oper} {o : Oper} {a : Act} {Q : Exit → Act → World → Prop} {Kc : Act → World → Prop} {α : Type}
end
end Go.Proofs.YtagjleeckbnddaaXW
