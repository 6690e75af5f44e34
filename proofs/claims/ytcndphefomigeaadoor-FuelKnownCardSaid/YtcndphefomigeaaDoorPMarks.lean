/- The marks that ranges over a function leave among the deferred calls: kept in a loop, shut at the return. -/
import Derived.Test.YtcndphefomigeaaDoorPApp
import Derived.Test.YtcndphefomigeaaDoorPSeq
set_option linter.unusedVariables false
set_option linter.unusedSimpArgs false
set_option linter.unnecessarySimpa false
namespace Go.Proofs.YtcndphefomigeaaDoor
open Go.RowKit Go.Shelf
/-- The marks that the ranges over a function have left, and their blocks. -/
def Marks (B : Nat) (W : World) (ds : List Deferred) : Prop := ∃ Ds : List Nat, ds = Ds.map (fun D => { target := .collected D, args := #[] }) ∧ Ds.Nodup ∧ ∀ D ∈ Ds, B ≤ D ∧ W.heap[D]? = some (.deferred (some []))
theorem Marks.nil (B : Nat) (W : World) : Marks B W [] := ⟨[], rfl, List.nodup_nil, fun _ h => by cases h⟩
theorem Marks.one {B D : Nat} {W : World} (hB : B ≤ D) (hK : W.heap[D]? = some (.deferred (some []))) : Marks B W [{ target := .collected D, args := #[] }] :=
  ⟨[D], rfl, by simp, fun x h => by obtain rfl := List.mem_singleton.1 h; exact ⟨hB, hK⟩⟩
theorem Marks.cons {B D : Nat} {A W : World} {ds : List Deferred} (h : Marks B A ds) (hg : A.grownBy W none) (hB : B ≤ D) (hD : A.heap.size ≤ D) (hK : W.heap[D]? = some (.deferred (some []))) : Marks B W ({ target := .collected D, args := #[] } :: ds) := by
  obtain ⟨Ds, rfl, h1, h2⟩ := h
  have hlt : ∀ x ∈ Ds, x < A.heap.size := fun x hx => (Array.getElem?_eq_some_iff.1 (h2 x hx).2).1
  refine ⟨D :: Ds, rfl, List.nodup_cons.2 ⟨fun hm => by have := hlt D hm; omega, h1⟩, fun x hx => ?_⟩
  rcases List.mem_cons.1 hx with rfl | hx
  · exact ⟨hB, hK⟩
  · exact ⟨(h2 x hx).1, (hg.block x (hlt x hx) (by simp)).trans (h2 x hx).2⟩
theorem Marks.keep {B : Nat} {A W : World} {ds : List Deferred} (h : Marks B A ds) (hk : ∀ D : Nat, A.heap[D]? = some (.deferred (some [])) → W.heap[D]? = some (.deferred (some []))) : Marks B W ds := by
  obtain ⟨Ds, rfl, h1, h2⟩ := h
  exact ⟨Ds, rfl, h1, fun x hx => ⟨(h2 x hx).1, hk x (h2 x hx).2⟩⟩
/-- A store into a block of cells leaves the marks. -/
theorem Marks.set {B : Nat} {A : World} {ds : List Deferred} {g : Nat} {t : TypeId} {cs : Array Value} (h : Marks B A ds) (hg : Bk A g t cs) (i : Nat) (u : Value) : Marks B (A.setCell ⟨g, i, none⟩ u) ds :=
  h.keep fun D hD => (Below.heap_setCell A ⟨g, i, none⟩ u D (fun e => by
    have e' : D = g := e
    subst e'
    unfold Bk at hg
    rw [hg] at hD
    cases hD)).trans hD
theorem Marks.alloc {B : Nat} {A : World} {ds : List Deferred} (h : Marks B A ds) (o : Obj) : Marks B (A.alloc o) ds :=
  h.keep fun D hD => (Below.heap_alloc A o D (Array.getElem?_eq_some_iff.1 hD).1).trans hD
/-- An append onto a row of the call's own leaves the marks. -/
theorem Marks.own {α : Type} {enc : α → List Value} {e : TypeId} {sz base : Nat} {B : Nat} {A W : World} {ds : List Deferred} {v : Value} {l : List α} (h : Marks B A ds) (ho : Own enc e sz base A v l) (hg : A.grownBy W v.ownBlock) : Marks B W ds :=
  h.keep fun D hD => (hg.block D (Array.getElem?_eq_some_iff.1 hD).1 (fun e => by
    rcases ho.2 with ⟨rfl, _⟩ | ⟨g, cap, cur, rfl, _, hh, _⟩
    · cases e
    · injection e with e
      subst e
      rw [hh] at hD
      cases hD)).trans hD
theorem Own.base {α : Type} {enc : α → List Value} {e : TypeId} {sz base base' : Nat} {w : World} {v : Value} {l : List α} (h : Own enc e sz base w v l) (hb : base' ≤ base) : Own enc e sz base' w v l := by
  obtain ⟨h1, h2⟩ := h
  refine ⟨h1, ?_⟩
  rcases h2 with h2 | ⟨g, cap, cur, hv, hbg, hg, h3⟩
  · exact .inl h2
  · exact .inr ⟨g, cap, cur, hv, by omega, hg, h3⟩
theorem Bk.newAt (w : World) (t : TypeId) (cs : Array Value) {n : Nat} (h : w.heap.size = n) : Bk (w.alloc (.cells cs t)) n t cs := h ▸ Bk.new w t cs
/-- w' is w with some marks' blocks from B on shut. -/
structure Shut (B : Nat) (w w' : World) : Prop where
  os : w'.os = w.os
  tape : w'.tape = w.tape
  output : w'.output = w.output
  size : w'.heap.size = w.heap.size
  block : ∀ g, w.heap[g]? ≠ some (.deferred (some [])) ∨ g < B → w'.heap[g]? = w.heap[g]?
theorem Shut.bk {B : Nat} {w w' : World} (h : Shut B w w') {g : Nat} {t : TypeId} {cs : Array Value} (hg : Bk w g t cs) : Bk w' g t cs :=
  (h.block g (.inl (by unfold Bk at hg; rw [hg]; simp))).trans hg
theorem Shut.gb {B : Nat} {a w w' : World} (h : Shut B w w') {r : Option Nat} (hg : a.grownBy w r) (hB : a.heap.size ≤ B) : a.grownBy w' r :=
  ⟨h.os.trans hg.os, h.tape.trans hg.tape, h.output.trans hg.output, by rw [h.size]; exact hg.size, fun i hi hne => (h.block i (.inr (by omega))).trans (hg.block i hi hne)⟩
theorem Shut.own {α : Type} {enc : α → List Value} {e : TypeId} {sz base B : Nat} {w w' : World} {v : Value} {l : List α} (hs : Shut B w w') (h : Own enc e sz base w v l) : Own enc e sz base w' v l := by
  obtain ⟨h1, h2⟩ := h
  refine ⟨h1, ?_⟩
  rcases h2 with h2 | ⟨g, cap, cur, hv, hb, hg, h3⟩
  · exact .inl h2
  · exact .inr ⟨g, cap, cur, hv, hb, (hs.block g (.inl (by rw [hg]; simp))).trans hg, h3⟩
theorem leave_marks {P : Program} {fn : Func} {R : Ending → World → Prop} {tmps : Array Value} {B : Nat} {w : World} {ds : List Deferred} (hm : Marks B w ds) (v : Value)
    (h : ∀ w', Shut B w w' → (results fn tmps).run P w' = .ok v w' ∧ R (.returned v) w') :
    bodyPostM Fence.wide 0 P fn R .ret { tmps := tmps, defers := ds } w := by
  obtain ⟨Ds, rfl, h1, h2⟩ := hm
  show LeavesInM Fence.wide 0 P fn tmps R _ .returning w
  have key : ∀ (Ds : List Nat) (u : World), Ds.Nodup → (∀ D ∈ Ds, B ≤ D ∧ u.heap[D]? = some (.deferred (some []))) → Shut B w u →
      LeavesInM Fence.wide 0 P fn tmps R (Ds.map (fun D => { target := .collected D, args := #[] })) .returning u := by
    intro Ds
    induction Ds with
    | nil => exact fun u _ _ hs => ⟨v, (h u hs).1, (h u hs).2⟩
    | cons D Ds ih =>
      intro u hn hD hs
      obtain ⟨hn1, hn2⟩ := List.nodup_cons.1 hn
      obtain ⟨hB, hK⟩ := hD D (by simp)
      refine ⟨by simp, .inl ⟨D, u.putObj D (.deferred none), rfl, run_takeDeferred hK, ih _ hn2 (fun x hx => ?_) ?_⟩⟩
      · have hne : x ≠ D := fun e => hn1 (e ▸ hx)
        exact ⟨(hD x (by simp [hx])).1, (World.putObj_heap_other hne).trans (hD x (by simp [hx])).2⟩
      · refine ⟨hs.os, hs.tape, hs.output, ?_, fun g hg => ?_⟩
        · rw [← hs.size]; simp [World.putObj]
        · have hu := hs.block g hg
          by_cases e : g = D
          · subst e
            rcases hg with hg | hg
            · rw [hu] at hK; exact absurd hK hg
            · omega
          · exact (World.putObj_heap_other e).trans hu
  exact key Ds w h1 h2 ⟨rfl, rfl, rfl, rfl, fun _ _ => rfl⟩

/-- A slot of a frame. -/
def slot (T : Array Value) (i : Nat) : Value := T.getD i undef
/-- A loop in whose rounds the deferred calls may grow; the slots are told by a function. -/
theorem wp_loopS {P : Program} {c : Code} {Q : Exit → Act → World → Prop} {a : Act} {w : World} (n : Nat) (hn : a.tmps.size = n) (I : (Nat → Value) → List Deferred → World → Prop) (μ : (Nat → Value) → World → Nat)
    (h0 : I (slot a.tmps) a.defers w)
    (round : ∀ t ds wr, I t ds wr → c.wp P (Exit.then (fun a' w' => a'.tmps.size = n ∧ I (slot a'.tmps) a'.defers w' ∧ μ (slot a'.tmps) w' < μ t wr) Q) { tmps := ((List.range n).map t).toArray, defers := ds } wr) :
    (Code.loop c).wp P Q a w := by
  refine wp_loop (fun a' wr => a'.tmps.size = n ∧ I (slot a'.tmps) a'.defers wr) (fun a' wr => μ (slot a'.tmps) wr) ⟨hn, h0⟩ ?_
  rintro ⟨T, ds⟩ wr ⟨hT, hI⟩
  simp only at hT
  have e : T = ((List.range n).map (slot T)).toArray := by
    refine Array.ext (by simp [hT]) fun i h1 h2 => ?_
    simp [slot, h1]
  have hr := round (slot T) ds wr hI
  rw [← e] at hr
  refine wp_mono hr fun e a' w' h => ?_
  cases e <;> first | exact ⟨⟨h.1, h.2.1⟩, h.2.2⟩ | exact h
end Go.Proofs.YtcndphefomigeaaDoor
