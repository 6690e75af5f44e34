/- Small facts about worlds, blocks and what a call keeps, which the walks of this claim share. -/
import Derived.Test.YtlefmbjipdlcfaaRows
import Derived.WalkKit
import Derived.WalkSpells
import Derived.WalkLawsBesides
import Derived.Lib.Hide
set_option linter.unusedVariables false
set_option linter.unusedSimpArgs false
set_option linter.unnecessarySimpa false
namespace Go.Proofs.Ytlefmbjipdlcfaa
open Go.RowKit
/-! ### what only grows -/
theorem gb_trans' {a b c : World} {r r' : Option Nat} (h : a.grownBy b r) (k : b.grownBy c r') (hr : ∀ g, r' = some g -> r = some g ∨ a.heap.size <= g) : a.grownBy c r :=
 ⟨k.os.trans h.os, k.tape.trans h.tape, k.output.trans h.output, Nat.le_trans h.size k.size, fun i hi hne => (k.block i (Nat.lt_of_lt_of_le hi h.size) (fun e => by
  rcases hr i e.symm with h1 | h1
  · exact hne h1.symm
  · omega)).trans (h.block i hi hne)⟩
theorem gb_trans {a b c : World} {r : Option Nat} (h : a.grownBy b r) (k : b.grownBy c r) : a.grownBy c r := gb_trans' h k fun _ e => .inl e
theorem gb_none {a b c : World} {r : Option Nat} (h : a.grownBy b r) (k : b.grownBy c none) : a.grownBy c r := gb_trans' h k fun _ e => by cases e
theorem gb_refl (w : World) (r : Option Nat) : w.grownBy w r := World.grownBy.refl w r
theorem gb_drew {a w : World} {r : Option Nat} (h : a.grownBy w r) : a.grownBy w.drew r := ⟨h.os, h.tape, h.output, h.size, h.block⟩
theorem gb_drewN {a w : World} {r : Option Nat} (h : a.grownBy w r) (n : Nat) : a.grownBy (w.drewN n) r := ⟨h.os, h.tape, h.output, h.size, h.block⟩
theorem gb_alloc {a w : World} {r : Option Nat} (h : a.grownBy w r) (o : Obj) : a.grownBy (w.alloc o) r :=
 ⟨h.os, h.tape, h.output, Nat.le_trans h.size (by simp), fun i hi hne => (Below.heap_alloc w o i (Nat.lt_of_lt_of_le hi h.size)).trans (h.block i hi hne)⟩
theorem gb_setCell {a w : World} {r : Option Nat} (h : a.grownBy w r) {p : Addr} (hp : r = some p.block ∨ a.heap.size <= p.block) (u : Value) : a.grownBy (w.setCell p u) r :=
 ⟨h.os, h.tape, h.output, by simpa [World.setCell] using h.size, fun i hi hne => (Below.heap_setCell w p u i (by
  rintro rfl
  rcases hp with hp | hp
  · exact hne hp.symm
  · omega)).trans (h.block i hi hne)⟩
theorem below_of_gb {a w : World} (h : a.grownBy w none) : Below a.heap.size a w := ⟨h.os, h.tape, h.output, h.size, fun i hi => h.block i hi (by simp)⟩
theorem gb_cell {w w' : World} {r : Option Nat} (h : w.grownBy w' r) {b o : Nat} (hb : b < w.heap.size) (hr : some b ≠ r) : w'.cell? ⟨b, o, none⟩ = w.cell? ⟨b, o, none⟩ :=
 World.cell?_of_block (w := w) (h.block b hb hr)
theorem cell_lt {w : World} {b o : Nat} {v : Value} (h : w.cell? ⟨b, o, none⟩ = some v) : b < w.heap.size := by
 rcases Nat.lt_or_ge b w.heap.size with h1 | h1
 · exact h1
 · simp [World.cell?, Array.getElem?_eq_none h1] at h
theorem gbc {w w' : World} {r : Option Nat} {b o : Nat} {v : Value} (hg : w.grownBy w' r) (hr : some b ≠ r) (h : w.cell? ⟨b, o, none⟩ = some v) : w'.cell? ⟨b, o, none⟩ = some v :=
 (gb_cell hg (cell_lt h) hr).trans h
theorem alc {w : World} {b o : Nat} {v : Value} (x : Obj) (h : w.cell? ⟨b, o, none⟩ = some v) : (w.alloc x).cell? ⟨b, o, none⟩ = some v :=
 (World.cell?_alloc_lt w x _ (cell_lt h)).trans h
/-! ### a block that is known whole -/
def Bk (w : World) (g : Nat) (t : TypeId) (cs : Array Value) : Prop := w.heap[g]? = some (.cells cs t (0, 0))
section
variable {w w' : World} {g : Nat} {t : TypeId} {cs : Array Value}
theorem Bk.lt (h : Bk w g t cs) : g < w.heap.size := (Array.getElem?_eq_some_iff.1 h).1
theorem Bk.cell (h : Bk w g t cs) (i : Nat) : w.cell? ⟨g, i, none⟩ = cs[i]? := by
 unfold Bk at h
 simp [World.cell?, h]
theorem Bk.frozen (h : Bk w g t cs) (i : Nat) : w.frozen? ⟨g, i, none⟩ = false := by
 unfold Bk at h
 simp [World.frozen?, h]
theorem Bk.new (w : World) (t : TypeId) (cs : Array Value) : Bk (w.alloc (.cells cs t)) w.heap.size t cs := by
 show (w.heap.push _)[w.heap.size]? = _
 simp
theorem Bk.drew (h : Bk w g t cs) : Bk w.drew g t cs := h
theorem Bk.drewN (h : Bk w g t cs) (n : Nat) : Bk (w.drewN n) g t cs := h
theorem Bk.alloc (h : Bk w g t cs) (o : Obj) : Bk (w.alloc o) g t cs := (Below.heap_alloc w o g h.lt).trans h
theorem Bk.set (h : Bk w g t cs) (i : Nat) (u : Value) : Bk (w.setCell ⟨g, i, none⟩ u) g t (cs.setIfInBounds i u) := by
 unfold Bk at h ⊢
 simp [World.setCell, Array.getElem?_modify, h]
theorem Bk.far (h : Bk w g t cs) {p : Addr} (hp : g ≠ p.block) (u : Value) : Bk (w.setCell p u) g t cs := (Below.heap_setCell w p u g hp).trans h
theorem Bk.gb {r : Option Nat} (h : Bk w g t cs) (hg : w.grownBy w' r) (hr : some g ≠ r) : Bk w' g t cs := (hg.block g h.lt hr).trans h
theorem Bk.ne {g' : Nat} {t' : TypeId} {cs' : Array Value} (h : Bk w g t cs) (h' : Bk w g' t' cs') (hne : t ≠ t') : g ≠ g' := by
 rintro rfl
 unfold Bk at h h'
 rw [h] at h'
 injection h' with h'
 injection h' with _ ht
 exact hne ht
end
/-! ### the seed -/
def SeedAt (w : World) (b : Nat) : Prop := ∃ u : Int, w.heap[b]? = some (.cells #[.int .u64 u] 57 (0, 0))
theorem SeedAt.lt {w : World} {b : Nat} (h : SeedAt w b) : b < w.heap.size := by
 obtain ⟨u, h⟩ := h
 exact (Array.getElem?_eq_some_iff.1 h).1
theorem SeedAt.facts {w : World} {b : Nat} (h : SeedAt w b) : ∃ u : Int, w.cell? ⟨b, 0, none⟩ = some (.int .u64 u) /\ w.frozen? ⟨b, 0, none⟩ = false := by
 obtain ⟨u, h⟩ := h
 exact ⟨u, by simp [World.cell?, h], by simp [World.frozen?, h]⟩
theorem SeedAt.set {w : World} {b : Nat} (h : SeedAt w b) (u : Int) : SeedAt (w.setCell ⟨b, 0, none⟩ (.int .u64 u)) b := by
 obtain ⟨u0, h⟩ := h
 exact ⟨u, by simp [World.setCell, Array.getElem?_modify, h]⟩
theorem SeedAt.alloc {w : World} {b : Nat} (h : SeedAt w b) (o : Obj) : SeedAt (w.alloc o) b := by
 have hl := h.lt
 obtain ⟨u, h⟩ := h
 exact ⟨u, (Below.heap_alloc w o b hl).trans h⟩
theorem SeedAt.drew {w : World} {b : Nat} (h : SeedAt w b) : SeedAt w.drew b := h
theorem SeedAt.drewN {w : World} {b : Nat} (h : SeedAt w b) (n : Nat) : SeedAt (w.drewN n) b := h
theorem SeedAt.far {w : World} {b : Nat} (h : SeedAt w b) {p : Addr} (hp : b ≠ p.block) (v : Value) : SeedAt (w.setCell p v) b := by
 obtain ⟨u, h⟩ := h
 exact ⟨u, (Below.heap_setCell w p v b hp).trans h⟩
theorem SeedAt.gb {w w' : World} {b : Nat} {r : Option Nat} (h : SeedAt w b) (hg : w.grownBy w' r) (hr : some b ≠ r) : SeedAt w' b := by
 have hl := h.lt
 obtain ⟨u, h⟩ := h
 exact ⟨u, (hg.block b hl hr).trans h⟩
def Gen (k : IntKind) (R : Int -> Prop) (b : Nat) (w : World) (e : Ending) (w' : World) : Prop :=
 ∃ r : Int, e = .returned (.int k r) /\ R r /\ SeedAt w' b /\ w.grownBy w' (some b)
theorem lhd {p : Prop} (h : p) : Hid p := Lib.hid h
abbrev RelT := (Nat → Value) → List Deferred → World → Prop
theorem lpA {α : Type _} {i : Nat} {a : α} {l : List α} : l.toArray.setIfInBounds i a = (l.set i a).toArray := List.setIfInBounds_toArray _ _ _
theorem lpB {α : Type _} {x a : α} {xs : List α} : (x :: xs).set 0 a = a :: xs := List.set_cons_zero
theorem lpC {α : Type _} {x a : α} {xs : List α} {n : Nat} : (x :: xs).set (n + 1) a = x :: xs.set n a := List.set_cons_succ
theorem lpX : (∀ (a : Act) (v : Value) (d : Tmp), a.put (some d) v = { tmps := a.tmps.setIfInBounds d v, defers := a.defers }) /\ (∀ (a : Act) (v : Value), a.put none v = a) /\ (∀ (i : Nat) (a : Value) (l : List Value), l.toArray.setIfInBounds i a = (l.set i a).toArray) /\ (∀ (x a : Value) (xs : List Value), (x :: xs).set 0 a = a :: xs) /\ ∀ (x a : Value) (xs : List Value) (n : Nat), (x :: xs).set (n + 1) a = x :: xs.set n a := ⟨fun _ _ _ => rfl, fun _ _ => rfl, fun _ _ _ => lpA, fun _ _ _ => lpB, fun _ _ _ _ => lpC⟩
end Go.Proofs.Ytlefmbjipdlcfaa
