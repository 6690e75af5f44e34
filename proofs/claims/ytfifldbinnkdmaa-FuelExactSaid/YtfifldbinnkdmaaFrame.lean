/- A statement's own frame: its seed, its boxes, what it was handed or has made, in the world at hand. -/
import Derived.Test.YtfifldbinnkdmaaMem
set_option linter.unusedVariables false
set_option linter.unusedSimpArgs false
set_option linter.unnecessarySimpa false
namespace Go.Proofs.Ytfifldbinnkdmaa
open Go.RowKit

/-- sb: the seed's block; X: the blocks of what E speaks of; bx: the statement's boxes (block, type, cells); w0: the world at its start. -/
structure SF (w0 : World) (sb : Option Nat) (X : Nat → Prop) (E : World → Prop) (bx : List (Nat × TypeId × Array Value)) (w : World) : Prop where
  seed : ∀ s, sb = some s → SeedAt w s ∧ w0.heap.size ≤ s ∧ ¬ X s
  box : ∀ b ∈ bx, Bk w b.1 b.2.1 b.2.2 ∧ some b.1 ≠ sb ∧ ¬ X b.1 ∧ w0.heap.size ≤ b.1
  nodup : (bx.map (·.1)).Nodup
  ext : E w
  mono : ∀ (A B : World) (r : Option Nat), A.grownBy B r → (∀ g, r = some g → ¬ X g) → E A → E B
  old : ∀ g, X g → g < w.heap.size
  gb : w0.grownBy w none
section
variable {w0 A B : World} {sb : Option Nat} {X : Nat → Prop} {E : World → Prop} {bx : List (Nat × TypeId × Array Value)}
theorem SF.row (h : SF w0 sb X E bx A) {r : Option Nat} (hg : A.grownBy B r) (hX : ∀ g, r = some g → ¬ X g ∧ w0.heap.size ≤ g) (hs : ∀ s, sb = some s → SeedAt B s) (hb : ∀ b ∈ bx, some b.1 ≠ r) : SF w0 sb X E bx B :=
  ⟨fun s e => ⟨hs s e, (h.seed s e).2⟩, fun b hm => ⟨(h.box b hm).1.gb hg (hb b hm), (h.box b hm).2⟩, h.nodup, h.mono A B r hg (fun g e => (hX g e).1) h.ext, h.mono,
    fun g hg' => Nat.lt_of_lt_of_le (h.old g hg') hg.size, gb_trans' h.gb hg fun g e => .inr (hX g e).2⟩
theorem SF.gn (h : SF w0 sb X E bx A) (hg : A.grownBy B none) : SF w0 sb X E bx B :=
  h.row hg (fun _ e => by cases e) (fun s e => (h.seed s e).1.gb hg (by simp)) (fun _ _ => by simp)
theorem SF.go {s : Nat} (h : SF w0 (some s) X E bx A) (hg : A.grownBy B (some s)) (hs : SeedAt B s) : SF w0 (some s) X E bx B :=
  h.row hg (fun g e => by cases e; exact ⟨(h.seed s rfl).2.2, (h.seed s rfl).2.1⟩) (fun s' e => by cases e; exact hs) (fun b hm => (h.box b hm).2.1)
theorem SF.drew (h : SF w0 sb X E bx A) : SF w0 sb X E bx A.drew := h.gn (gb_drew (gb_refl _ _))
theorem SF.drewN (h : SF w0 sb X E bx A) (n : Nat) : SF w0 sb X E bx (A.drewN n) := h.gn (gb_drewN (gb_refl _ _) n)
theorem SF.alloc (h : SF w0 sb X E bx A) (o : Obj) : SF w0 sb X E bx (A.alloc o) := h.gn (gb_alloc (gb_refl _ _) o)
theorem SF.new (h : SF w0 sb X E bx A) (t : TypeId) (cs : Array Value) : SF w0 sb X E ((A.heap.size, t, cs) :: bx) (A.alloc (.cells cs t)) := by
  have h' := h.alloc (.cells cs t)
  refine ⟨h'.seed, fun b hm => ?_, ?_, h'.ext, h'.mono, h'.old, h'.gb⟩
  · rcases List.mem_cons.1 hm with rfl | hm
    · exact ⟨Bk.new A t cs, fun e => by have := (h.seed _ e.symm).1.lt; omega, fun hx => by have := h.old _ hx; omega, h.gb.size⟩
    · exact h'.box b hm
  · rw [List.map_cons, List.nodup_cons]
    refine ⟨fun hm => ?_, h.nodup⟩
    obtain ⟨b, hb, e⟩ := List.mem_map.1 hm
    have := (h.box b hb).1.lt
    omega
theorem SF.newAt (h : SF w0 sb X E bx A) (t : TypeId) (cs : Array Value) {n : Nat} (hn : A.heap.size = n) : SF w0 sb X E ((n, t, cs) :: bx) (A.alloc (.cells cs t)) := hn ▸ h.new t cs
theorem SF.set {g : Nat} {t : TypeId} {cs : Array Value} (h : SF w0 sb X E ((g, t, cs) :: bx) A) (i : Nat) (u : Value) : SF w0 sb X E ((g, t, cs.setIfInBounds i u) :: bx) (A.setCell ⟨g, i, none⟩ u) := by
  have hg := gb_setCell (gb_refl A (some g)) (p := ⟨g, i, none⟩) (.inl rfl) u
  have h0 := h.box (g, t, cs) (by simp)
  have hnd := h.nodup
  rw [List.map_cons, List.nodup_cons] at hnd
  refine ⟨fun s e => ⟨(h.seed s e).1.far (fun e' => h0.2.1 (by rw [e, e'])) _, (h.seed s e).2⟩, fun b hm => ?_, ?_, h.mono A _ _ hg (fun g' e => by cases e; exact h0.2.2.1) h.ext, h.mono, fun g' hx => Nat.lt_of_lt_of_le (h.old g' hx) hg.size,
    gb_trans' h.gb hg fun g' e => by cases e; exact .inr h0.2.2.2⟩
  · rcases List.mem_cons.1 hm with rfl | hm
    · exact ⟨h0.1.set i u, h0.2⟩
    · have hb := h.box b (by simp [hm])
      exact ⟨hb.1.far (fun e => hnd.1 (List.mem_map.2 ⟨b, hm, e⟩)) _, hb.2⟩
  · rw [List.map_cons, List.nodup_cons]
    exact hnd
theorem SF.get (h : SF w0 sb X E bx A) {g : Nat} {t : TypeId} {cs : Array Value} (hm : (g, t, cs) ∈ bx) : Bk A g t cs := (h.box _ hm).1
theorem SF.perm {bx' : List (Nat × TypeId × Array Value)} (h : SF w0 sb X E bx A) (hp : bx.Perm bx') : SF w0 sb X E bx' A :=
  ⟨h.seed, fun b hm => h.box b (hp.mem_iff.2 hm), (hp.map _).nodup_iff.1 h.nodup, h.ext, h.mono, h.old, h.gb⟩
theorem SF.sub {bx' : List (Nat × TypeId × Array Value)} (h : SF w0 sb X E bx A) (hp : bx'.Sublist bx) : SF w0 sb X E bx' A :=
  ⟨h.seed, fun b hm => h.box b (hp.subset hm), List.Nodup.sublist (hp.map _) h.nodup, h.ext, h.mono, h.old, h.gb⟩
theorem SF.sd {s : Nat} (h : SF w0 (some s) X E bx A) : SeedAt A s := (h.seed s rfl).1
/-- More that the statement has in hand. -/
theorem SF.more (h : SF w0 sb X E bx A) (Y : Nat → Prop) (F : World → Prop) (hF : F A) (hm : ∀ (A B : World) (r : Option Nat), A.grownBy B r → (∀ g, r = some g → ¬ Y g) → F A → F B)
    (hY : ∀ g, Y g → g < A.heap.size ∧ some g ≠ sb ∧ ∀ b ∈ bx, b.1 ≠ g) : SF w0 sb (fun g => X g ∨ Y g) (fun W => E W ∧ F W) bx A :=
  ⟨fun s e => ⟨(h.seed s e).1, (h.seed s e).2.1, fun hx => hx.elim (h.seed s e).2.2 fun hy => (hY s hy).2.1 e.symm⟩,
    fun b hb => ⟨(h.box b hb).1, (h.box b hb).2.1, fun hx => hx.elim (h.box b hb).2.2.1 fun hy => (hY _ hy).2.2 b hb rfl, (h.box b hb).2.2.2⟩, h.nodup, ⟨h.ext, hF⟩,
    fun A B r hg hr hE => ⟨h.mono A B r hg (fun g e hx => hr g e (.inl hx)) hE.1, hm A B r hg (fun g e hy => hr g e (.inr hy)) hE.2⟩,
    fun g hx => hx.elim (h.old g) fun hy => (hY g hy).1, h.gb⟩
theorem SF.seedIn {s : Nat} (h : SF w0 none X E bx A) (hs : SeedAt A s) (h0 : w0.heap.size ≤ s) (hX : ¬ X s) (hb : ∀ b ∈ bx, b.1 ≠ s) : SF w0 (some s) X E bx A :=
  ⟨fun s' e => by cases e; exact ⟨hs, h0, hX⟩, fun b hm => ⟨(h.box b hm).1, fun e => hb b hm (by injection e), (h.box b hm).2.2⟩, h.nodup, h.ext, h.mono, h.old, h.gb⟩
theorem SF.start (w : World) (X : Nat → Prop) (E : World → Prop) (hE : E w) (hm : ∀ (A B : World) (r : Option Nat), A.grownBy B r → (∀ g, r = some g → ¬ X g) → E A → E B) (hX : ∀ g, X g → g < w.heap.size) : SF w none X E [] w :=
  ⟨fun _ e => (by cases e), fun _ h => (by cases h), List.nodup_nil, hE, hm, hX, gb_refl _ _⟩
theorem Sl.mono' {α : Type} {enc : α → List Value} {sz lo hi : Nat} {v : Value} {l : List α} (A B : World) (r : Option Nat) (hg : A.grownBy B r) (hr : ∀ g, r = some g → ¬ (lo ≤ g ∧ g < hi)) (h : Sl enc sz lo hi A v l) : Sl enc sz lo hi B v l :=
  h.gb hg fun g e => by have := hr g e; omega
end
/-- A cell of a slice of ints whose address is known. -/
theorem Ints.cell {lo hi : Nat} {w : World} {x ox n c : Nat} {l : List Int} (h : Ints lo hi w (.slice (some ⟨x, ox, none⟩) n c) l) {i : Nat} (hi' : i < l.length) : w.cell? ⟨x, ox + i, none⟩ = some (.int .i64 (gi l i)) := by
  obtain ⟨x', ox', c', ev, _, _, H⟩ := Ints.at h (by omega)
  injection ev with e1 _ e2
  injection e1 with e1
  injection e1 with e3 e4
  subst e3 e4
  exact H i hi'
end Go.Proofs.Ytfifldbinnkdmaa
