/- What walks that ax.py prints lean on: tests, elements of slices, slices that were handed in. -/
import Derived.Test.YthblaiefalbomaaBus
import Derived.Test.YthblaiefalbomaaMarks
import Derived.Test.YthblaiefalbomaaReg
import Derived.Test.YthblaiefalbomaaCutB
import Derived.Deep.RegionHeld3
import Derived.LoopN
import Derived.Lib.MinMax
import Derived.BigQuiet
import Derived.Deep.QuietTactic
set_option linter.unusedVariables false
set_option linter.unusedSimpArgs false
set_option linter.unnecessarySimpa false
namespace Go.Proofs.Ythblaiefalbomaa
open Go.RowKit

theorem beq_t {a b : Int} (h : a = b) : (a == b) = true := by rw [beq_iff_eq]; exact h
theorem beq_f {a b : Int} (h : ¬ a = b) : (a == b) = false := by rw [beq_eq_false_iff_ne]; exact h
theorem bne_f {a b : Int} (h : a = b) : (a != b) = false := by rw [bne, beq_t h]; rfl
theorem bne_t {a b : Int} (h : ¬ a = b) : (a != b) = true := by rw [bne, beq_f h]; rfl
theorem dec_f {p : Prop} [Decidable p] (h : ¬ p) : decide p = false := decide_eq_false h
theorem dec_t {p : Prop} [Decidable p] (h : p) : decide p = true := decide_eq_true h
theorem Sl.cells {α : Type} {enc : α → List Value} {sz lo hi n c x ox : Nat} {w : World} {l : List α} (h : Sl enc sz lo hi w (.slice (some ⟨x, ox, none⟩) n c) l) {i : Nat} {z : α} (hz : l[i]? = some z) :
    ∀ j u, (enc z)[j]? = some u → w.cell? ⟨x, ox + i * sz + j, none⟩ = some u := by
  have hi : i < l.length := (List.getElem?_eq_some_iff.1 hz).1
  obtain ⟨x', ox', c', ev, _, _, H⟩ := h.form (by omega)
  injection ev with e1 _ e2
  injection e1 with e1
  injection e1 with e3 e4
  subst e3 e4
  have := H i hi
  rw [(List.getElem?_eq_some_iff.1 hz).2] at this
  exact this
theorem Sl.addr {α : Type} {enc : α → List Value} {sz lo hi n c : Nat} {a : Option Addr} {w : World} {l : List α} (h : Sl enc sz lo hi w (.slice a n c) l) (h0 : 0 < l.length) : ∃ x ox, a = some ⟨x, ox, none⟩ := by
  obtain ⟨x, ox, c', ev, _⟩ := h.form h0
  injection ev with e1 _ _
  exact ⟨x, ox, e1⟩
theorem Bun.name {w0 A : World} {L : List Res} (h : Bun w0 L A) : ∃ x, A = x ∧ Bun w0 L x ∧ A.heap.size ≤ x.heap.size := ⟨A, rfl, h, Nat.le_refl _⟩
theorem Bus.name {w0 A : World} {sd : Nat} {L : List Res} (h : Bus w0 sd L A) : ∃ x, A = x ∧ Bus w0 sd L x ∧ A.heap.size ≤ x.heap.size := ⟨A, rfl, h, Nat.le_refl _⟩
theorem drop_cons {α : Type} {l : List α} {k : Nat} {z : α} (h : l[k]? = some z) : l.drop k = z :: l.drop (k + 1) := by
  obtain ⟨h1, rfl⟩ := List.getElem?_eq_some_iff.1 h
  exact List.drop_eq_getElem_cons h1

theorem Bun.sl0 {α : Type} {enc : α → List Value} {sz lo hi : Nat} {v : Value} {l : List α} {w0 : World} {L : List Res} (h : Bun w0 L w0) (hs : Sl enc sz lo hi w0 v l) (h2 : hi ≤ w0.heap.size) (hm : L.all (fun r => !r.mine) = true) : Bun w0 (rsl enc sz lo hi v l :: L) w0 := by
  have hm' : ∀ r ∈ L, r.mine = false := fun r hr => by have := List.all_eq_true.1 hm r hr; simpa using this
  refine ⟨fun r hr => ?_, fun r hr g hx => ?_, ?_, h.gb⟩
  · rcases List.mem_cons.1 hr with rfl | hr
    · exact hs
    · exact h.all r hr
  · rcases List.mem_cons.1 hr with rfl | hr
    · exact ⟨Nat.lt_of_lt_of_le hx.2 h2, fun e => by cases e⟩
    · exact h.bd r hr g hx
  · rw [List.pairwise_cons]
    exact ⟨(fun x hx hmm => by
      rw [hm' x hx] at hmm
      rcases hmm with h1 | h1 <;> cases h1), h.dis⟩
def prevC {α : Type} (l : List α) (k : Nat) : Option α := if k = 0 then none else l[k - 1]?
theorem prevC_succ {α : Type} (l : List α) (k : Nat) : prevC l (k + 1) = l[k]? := by simp [prevC]

end Go.Proofs.Ythblaiefalbomaa
