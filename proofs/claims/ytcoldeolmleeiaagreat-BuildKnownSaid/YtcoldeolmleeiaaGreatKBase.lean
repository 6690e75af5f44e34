/- Small facts about worlds, blocks and what a call keeps, which the walks of this claim share. -/
import Derived.Test.YtcoldeolmleeiaaGreatRows
import Derived.WalkKit
import Derived.WalkSpells
import Derived.WalkLawsBesides
import Derived.Lib.Hide
set_option linter.unusedVariables false
set_option linter.unusedSimpArgs false
set_option linter.unnecessarySimpa false
namespace Go.Proofs.YtcoldeolmleeiaaGreat
open Go.RowKit
/-! ### what only grows -/
theorem gb_trans' {a b c : World} {r r' : Option Nat} (h : a.grownBy b r) (k : b.grownBy c r') (hr : ∀ g, r' = some g -> r = some g ∨ a.heap.size <= g) : a.grownBy c r :=
 ⟨k.os.trans h.os, k.tape.trans h.tape, k.output.trans h.output, Nat.le_trans h.size k.size, fun i hi hne => (k.block i (Nat.lt_of_lt_of_le hi h.size) (fun e => by
  rcases hr i e.symm with h1 | h1
  · exact hne h1.symm
  · omega)).trans (h.block i hi hne)⟩
theorem gb_trans {a b c : World} {r : Option Nat} (h : a.grownBy b r) (k : b.grownBy c r) : a.grownBy c r := gb_trans' h k fun _ e => .inl e
theorem gb_none {a b c : World} {r : Option Nat} (h : a.grownBy b r) (k : b.grownBy c none) : a.grownBy c r := gb_trans' h k fun _ e => by cases e
theorem gb_refl (w : World) (r : Option Nat) : w.grownBy w r := World.grownBy.refl w r
theorem gb_drew {a w : World} {r : Option Nat} (h : a.grownBy w r) : a.grownBy w.drew r := ⟨h.os, h.tape, h.output, h.size, h.block⟩
theorem gb_drewN {a w : World} {r : Option Nat} (h : a.grownBy w r) (n : Nat) : a.grownBy (w.drewN n) r := ⟨h.os, h.tape, h.output, h.size, h.block⟩
theorem gb_alloc {a w : World} {r : Option Nat} (h : a.grownBy w r) (o : Obj) : a.grownBy (w.alloc o) r :=
 ⟨h.os, h.tape, h.output, Nat.le_trans h.size (by simp), fun i hi hne => (Below.heap_alloc w o i (Nat.lt_of_lt_of_le hi h.size)).trans (h.block i hi hne)⟩
theorem gb_setCell {a w : World} {r : Option Nat} (h : a.grownBy w r) {p : Addr} (hp : r = some p.block ∨ a.heap.size <= p.block) (u : Value) : a.grownBy (w.setCell p u) r :=
 ⟨h.os, h.tape, h.output, by simpa [World.setCell] using h.size, fun i hi hne => (Below.heap_setCell w p u i (by
  rintro rfl
  rcases hp with hp | hp
  · exact hne hp.symm
  · omega)).trans (h.block i hi hne)⟩
theorem below_of_gb {a w : World} (h : a.grownBy w none) : Below a.heap.size a w := ⟨h.os, h.tape, h.output, h.size, fun i hi => h.block i hi (by simp)⟩
theorem gb_cell {w w' : World} {r : Option Nat} (h : w.grownBy w' r) {b o : Nat} (hb : b < w.heap.size) (hr : some b ≠ r) : w'.cell? ⟨b, o, none⟩ = w.cell? ⟨b, o, none⟩ :=
 World.cell?_of_block (w := w) (h.block b hb hr)
theorem cell_lt {w : World} {b o : Nat} {v : Value} (h : w.cell? ⟨b, o, none⟩ = some v) : b < w.heap.size := by
 rcases Nat.lt_or_ge b w.heap.size with h1 | h1
 · exact h1
 · simp [World.cell?, Array.getElem?_eq_none h1] at h
theorem gbc {w w' : World} {r : Option Nat} {b o : Nat} {v : Value} (hg : w.grownBy w' r) (hr : some b ≠ r) (h : w.cell? ⟨b, o, none⟩ = some v) : w'.cell? ⟨b, o, none⟩ = some v :=
 (gb_cell hg (cell_lt h) hr).trans h
theorem alc {w : World} {b o : Nat} {v : Value} (x : Obj) (h : w.cell? ⟨b, o, none⟩ = some v) : (w.alloc x).cell? ⟨b, o, none⟩ = some v :=
 (World.cell?_alloc_lt w x _ (cell_lt h)).trans h
/-! ### a block that is known whole -/
def Bk (w : World) (g : Nat) (t : TypeId) (cs : Array Value) : Prop := w.heap[g]? = some (.cells cs t (0, 0))
section
variable {w w' : World} {g : Nat} {t : TypeId} {cs : Array Value}
theorem Bk.lt (h : Bk w g t cs) : g < w.heap.size := (Array.getElem?_eq_some_iff.1 h).1
theorem Bk.cell (h : Bk w g t cs) (i : Nat) : w.cell? ⟨g, i, none⟩ = cs[i]? := by
 unfold Bk at h
 simp [World.cell?, h]
theorem Bk.frozen (h : Bk w g t cs) (i : Nat) : w.frozen? ⟨g, i, none⟩ = false := by
 unfold Bk at h
 simp [World.frozen?, h]
theorem Bk.new (w : World) (t : TypeId) (cs : Array Value) : Bk (w.alloc (.cells cs t)) w.heap.size t cs := by
 show (w.heap.push _)[w.heap.size]? = _
 simp
theorem Bk.drew (h : Bk w g t cs) : Bk w.drew g t cs := h
theorem Bk.drewN (h : Bk w g t cs) (n : Nat) : Bk (w.drewN n) g t cs := h
theorem Bk.alloc (h : Bk w g t cs) (o : Obj) : Bk (w.alloc o) g t cs := (Below.heap_alloc w o g h.lt).trans h
theorem Bk.set (h : Bk w g t cs) (i : Nat) (u : Value) : Bk (w.setCell ⟨g, i, none⟩ u) g t (cs.setIfInBounds i u) := by
 unfold Bk at h ⊢
 simp [World.setCell, Array.getElem?_modify, h]
theorem Bk.gb {r : Option Nat} (h : Bk w g t cs) (hg : w.grownBy w' r) (hr : some g ≠ r) : Bk w' g t cs := (hg.block g h.lt hr).trans h
theorem Bk.ne {g' : Nat} {t' : TypeId} {cs' : Array Value} (h : Bk w g t cs) (h' : Bk w g' t' cs') (hne : t ≠ t') : g ≠ g' := by
 rintro rfl
 unfold Bk at h h'
 rw [h] at h'
 injection h' with h'
 injection h' with _ ht
 exact hne ht
end
theorem lhd {p : Prop} (h : p) : Hid p := Lib.hid h
abbrev RelT := (Nat → Value) → List Deferred → World → Prop
theorem lpA {α : Type _} {i : Nat} {a : α} {l : List α} : l.toArray.setIfInBounds i a = (l.set i a).toArray := List.setIfInBounds_toArray _ _ _
theorem lpB {α : Type _} {x a : α} {xs : List α} : (x :: xs).set 0 a = a :: xs := List.set_cons_zero
theorem lpC {α : Type _} {x a : α} {xs : List α} {n : Nat} : (x :: xs).set (n + 1) a = x :: xs.set n a := List.set_cons_succ
theorem lpX : (∀ (a : Act) (v : Value) (d : Tmp), a.put (some d) v = { tmps := a.tmps.setIfInBounds d v, defers := a.defers }) /\ (∀ (a : Act) (v : Value), a.put none v = a) /\ (∀ (i : Nat) (a : Value) (l : List Value), l.toArray.setIfInBounds i a = (l.set i a).toArray) /\ (∀ (x a : Value) (xs : List Value), (x :: xs).set 0 a = a :: xs) /\ ∀ (x a : Value) (xs : List Value) (n : Nat), (x :: xs).set (n + 1) a = x :: xs.set n a := ⟨fun _ _ _ => rfl, fun _ _ => rfl, fun _ _ _ => lpA, fun _ _ _ => lpB, fun _ _ _ _ => lpC⟩
abbrev E8 (W : World) (g p0 p1 p2 p3 p4 p5 p6 p7 : Nat) (a0 a1 a2 a3 a4 a5 a6 a7 : Value) : Prop := W.cell? ⟨g, p0, none⟩ = some a0 /\ W.cell? ⟨g, p1, none⟩ = some a1 /\ W.cell? ⟨g, p2, none⟩ = some a2 /\ W.cell? ⟨g, p3, none⟩ = some a3 /\ W.cell? ⟨g, p4, none⟩ = some a4 /\ W.cell? ⟨g, p5, none⟩ = some a5 /\ W.cell? ⟨g, p6, none⟩ = some a6 /\ W.cell? ⟨g, p7, none⟩ = some a7
abbrev C2 (W : World) (g : Nat) (a0 a1 : Value) : Prop := W.cell? ⟨g, 0, none⟩ = some a0 /\ W.cell? ⟨g, 1, none⟩ = some a1
abbrev C3 (W : World) (g : Nat) (a0 a1 a2 : Value) : Prop := W.cell? ⟨g, 0, none⟩ = some a0 /\ W.cell? ⟨g, 1, none⟩ = some a1 /\ W.cell? ⟨g, 2, none⟩ = some a2
abbrev C4 (W : World) (g : Nat) (a0 a1 a2 a3 : Value) : Prop := W.cell? ⟨g, 0, none⟩ = some a0 /\ W.cell? ⟨g, 1, none⟩ = some a1 /\ W.cell? ⟨g, 2, none⟩ = some a2 /\ W.cell? ⟨g, 3, none⟩ = some a3
abbrev C5 (W : World) (g : Nat) (a0 a1 a2 a3 a4 : Value) : Prop := W.cell? ⟨g, 0, none⟩ = some a0 /\ W.cell? ⟨g, 1, none⟩ = some a1 /\ W.cell? ⟨g, 2, none⟩ = some a2 /\ W.cell? ⟨g, 3, none⟩ = some a3 /\ W.cell? ⟨g, 4, none⟩ = some a4
abbrev C6 (W : World) (g : Nat) (a0 a1 a2 a3 a4 a5 : Value) : Prop := W.cell? ⟨g, 0, none⟩ = some a0 /\ W.cell? ⟨g, 1, none⟩ = some a1 /\ W.cell? ⟨g, 2, none⟩ = some a2 /\ W.cell? ⟨g, 3, none⟩ = some a3 /\ W.cell? ⟨g, 4, none⟩ = some a4 /\ W.cell? ⟨g, 5, none⟩ = some a5
abbrev C8 (W : World) (g : Nat) (a0 a1 a2 a3 a4 a5 a6 a7 : Value) : Prop := W.cell? ⟨g, 0, none⟩ = some a0 /\ W.cell? ⟨g, 1, none⟩ = some a1 /\ W.cell? ⟨g, 2, none⟩ = some a2 /\ W.cell? ⟨g, 3, none⟩ = some a3 /\ W.cell? ⟨g, 4, none⟩ = some a4 /\ W.cell? ⟨g, 5, none⟩ = some a5 /\ W.cell? ⟨g, 6, none⟩ = some a6 /\ W.cell? ⟨g, 7, none⟩ = some a7
theorem lfm {α : Type _} {p : α -> Prop} {a : α} {l : List α} (h : p a /\ ∀ x ∈ l, p x) : ∀ x ∈ a :: l, p x := List.forall_mem_cons.2 h
theorem lpF {α : Type _} {a : α} {l : List α} {n : Nat} : (a :: l).eraseIdx (n + 1) = a :: l.eraseIdx n := rfl
theorem lpG {α : Type _} {a : α} {l : List α} : (a :: l).eraseIdx 0 = l := rfl
theorem bqt {a b : Int} (h : a = b) : (a == b) = true /\ (a != b) = false := ⟨by rw [beq_iff_eq]; exact h, by rw [bne_eq_false_iff_eq]; exact h⟩
theorem bqf {a b : Int} (h : ¬ a = b) : (a == b) = false /\ (a != b) = true := ⟨by rw [beq_eq_false_iff_ne]; exact h, by rw [bne_iff_ne]; exact h⟩
end Go.Proofs.YtcoldeolmleeiaaGreat
