/- A book in hand, as a resource. -/
import Derived.Test.YtfifldbinnkdmaaBun
import Derived.Test.YtfifldbinnkdmaaCheck
set_option linter.unusedVariables false
set_option linter.unusedSimpArgs false
set_option linter.unnecessarySimpa false
namespace Go.Proofs.Ytfifldbinnkdmaa
open Go.RowKit

/-- A book in blocks from lo below hi. -/
def HasB (lo hi : Nat) (w : World) (va vm : Value) (b : Bok) : Prop := Accs lo hi w va b.accs ∧ Mvs lo hi w vm b.mvs
def rbook (lo hi : Nat) (va vm : Value) (b : Bok) : Res := ⟨false, fun x => lo ≤ x ∧ x < hi, fun w => HasB lo hi w va vm b, fun _ _ _ hg hr h =>
  ⟨Sl.gb h.1 hg (fun g e => by have := hr g e; omega), Sl.gb h.2 hg (fun g e => by have := hr g e; omega)⟩⟩
section
variable {lo hi lo' hi' : Nat} {w w' : World} {va vm : Value} {b : Bok}
theorem HasB.wide (h : HasB lo hi w va vm b) (h1 : lo' ≤ lo) (h2 : hi ≤ hi') : HasB lo' hi' w va vm b := ⟨h.1.wide h1 h2, h.2.wide h1 h2⟩
theorem HasB.gn (h : HasB lo hi w va vm b) (hg : w.grownBy w' none) : HasB lo hi w' va vm b := ⟨h.1.gb hg (fun _ e => by cases e), h.2.gb hg (fun _ e => by cases e)⟩
theorem HasB.all (h : HasB lo hi w va vm b) (h2 : hi ≤ w.heap.size) : HasB 0 w.heap.size w va vm b := h.wide (Nat.zero_le _) h2
theorem HasB.drew (h : HasB lo hi w va vm b) : HasB lo hi w.drew va vm b := h
theorem HasB.alloc (h : HasB lo hi w va vm b) (o : Obj) : HasB lo hi (w.alloc o) va vm b := ⟨h.1.alloc o, h.2.alloc o⟩
theorem HasB.vals (h : HasB lo hi w va vm b) : ∃ a c a' c', va = .slice a b.accs.length c ∧ vm = .slice a' b.mvs.length c' := by
  obtain ⟨a, c, e⟩ := h.1.any
  obtain ⟨a', c', e'⟩ := h.2.any
  exact ⟨a, c, a', c', e, e'⟩
theorem HasB.valA (h : HasB lo hi w va vm b) (h0 : 0 < b.accs.length) : ∃ x ox c a' c', va = .slice (some ⟨x, ox, none⟩) b.accs.length c ∧ vm = .slice a' b.mvs.length c' := by
  obtain ⟨x, ox, c, e, _⟩ := Accs.at h.1 h0
  obtain ⟨a', c', e'⟩ := h.2.any
  exact ⟨x, ox, c, a', c', e, e'⟩
theorem HasB.valM {a' : Option Addr} {m c' : Nat} (h : HasB lo hi w va (.slice a' m c') b) (h0 : 0 < b.mvs.length) : ∃ y oy, a' = some ⟨y, oy, none⟩ ∧ m = b.mvs.length := by
  obtain ⟨y, oy, c, e, _⟩ := Mvs.at h.2 h0
  injection e with e1 e2 e3
  exact ⟨y, oy, e1, e2⟩
theorem HasB.acc {x ox n c i : Nat} (h : HasB lo hi w (.slice (some ⟨x, ox, none⟩) n c) vm b) (hi' : i < b.accs.length) : AccCell w x (ox + i * 6) (ga b.accs i) := Accs.cell h.1 hi'
theorem HasB.mov {y oy n c i : Nat} (h : HasB lo hi w va (.slice (some ⟨y, oy, none⟩) n c) b) (hi' : i < b.mvs.length) : MvCell w y (oy + i * 4) (gm b.mvs i) := Mvs.cell h.2 hi'
theorem Bun.book {w0 : World} (h : HasB lo hi w0 va vm b) (h2 : hi ≤ w0.heap.size) : Bun w0 [rbook lo hi va vm b] w0 :=
  ⟨fun r hr => (by rw [List.mem_singleton] at hr; subst hr; exact h), fun r hr g hx => (by rw [List.mem_singleton] at hr; subst hr; exact ⟨Nat.lt_of_lt_of_le hx.2 h2, fun e => by cases e⟩), List.pairwise_singleton _ _, gb_refl _ _⟩
end
end Go.Proofs.Ytfifldbinnkdmaa
