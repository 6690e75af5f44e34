/- What a call hands back in blocks of its own, beside what was in hand: where no seed turns. -/
import Derived.Test.YtcndphefomigeaaDoorPG6
import Derived.Test.YtcndphefomigeaaDoorPK1
set_option linter.unusedVariables false
set_option linter.unusedSimpArgs false
set_option linter.unnecessarySimpa false
namespace Go.Proofs.YtcndphefomigeaaDoor
open Go.RowKit

theorem join_new {A B : World} {L2 : List Res} (h2 : Bun A L2 B) (hm : L2.all (fun r => r.mine) = true) : ∀ r ∈ L2, ∀ g, r.X g → A.heap.size ≤ g ∧ g < B.heap.size := fun r hr g hx => by
  obtain ⟨h3, h4⟩ := h2.bd r hr g hx
  exact ⟨h4 (by have := List.all_eq_true.1 hm r hr; simpa using this), h3⟩
theorem Bun.joinN {w0 A B : World} {L L2 : List Res} (h : Bun w0 L A) (h2 : Bun A L2 B) (hm : L2.all (fun r => r.mine) = true) : Bun w0 (L2 ++ L) B := by
  have hnew := join_new h2 hm
  have hg := h.gn h2.gb
  refine ⟨fun r hr => ?_, fun r hr g hx => ?_, ?_, hg.gb⟩
  · rcases List.mem_append.1 hr with hr | hr
    · exact h2.all r hr
    · exact hg.all r hr
  · rcases List.mem_append.1 hr with hr | hr
    · exact ⟨(hnew r hr g hx).2, fun _ => Nat.le_trans h.gb.size (hnew r hr g hx).1⟩
    · exact hg.bd r hr g hx
  · rw [List.pairwise_append]
    refine ⟨h2.dis, h.dis, fun a ha b hb _ g hx hy => ?_⟩
    have h3 := (hnew a ha g hx).1
    have h4 := (h.bd b hb g hy).1
    omega
theorem Bus.joinN {w0 A B : World} {sd : Nat} {L L2 : List Res} (h : Bus w0 sd L A) (h2 : Bun A L2 B) (hm : L2.all (fun r => r.mine) = true) : Bus w0 sd (L2 ++ L) B := by
  have hnew := join_new h2 hm
  have hg := h.gn h2.gb
  refine ⟨fun r hr => ?_, fun r hr g hx => ?_, ?_, hg.gb⟩
  · rcases List.mem_append.1 hr with hr | hr
    · exact h2.all r hr
    · exact hg.all r hr
  · rcases List.mem_append.1 hr with hr | hr
    · exact ⟨(hnew r hr g hx).2, fun _ => .inl (Nat.le_trans h.gb.size (hnew r hr g hx).1)⟩
    · exact hg.bd r hr g hx
  · rw [List.pairwise_append]
    refine ⟨h2.dis, h.dis, fun a ha b hb _ g hx hy => ?_⟩
    have h3 := (hnew a ha g hx).1
    have h4 := (h.bd b hb g hy).1
    omega
theorem set_at {α : Type} {l : List α} {i : Nat} {y : α} (h : i < l.length) : (l.set i y)[i]? = some y := by rw [List.getElem?_set_self h]
end Go.Proofs.YtcndphefomigeaaDoor
/- A region that draws, with allocations that may come up anywhere beside a chain of calls: one step for each operation, whatever the order. -/
namespace Go.Proofs.YtcndphefomigeaaDoor
open Go.RowKit Go.Shelf

/-- What has come up. -/
def Ups (l0 listed : Array Bool) (X : Nat → Prop) : Prop := listed.size = l0.size ∧ ∀ i, i < l0.size → (listed.getD i false = true ↔ l0.getD i false = true ∨ X i)
section
variable {ops : Array Oper} {md : Region.Mode} {l0 listed : Array Bool} {X : Nat → Prop}
theorem Ups.set {i : Nat} (h : Ups l0 listed X) : Ups l0 (listed.setIfInBounds i true) (fun x => X x ∨ x = i) := by
  refine ⟨by simpa using h.1, fun x hx => ?_⟩
  by_cases e : i = x
  · subst e
    have : i < listed.size := by rw [h.1]; exact hx
    simp [this]
  · rw [getD_set_ne false e, h.2 x hx]
    constructor
    · rintro (a | a)
      · exact .inl a
      · exact .inr (.inl a)
    · rintro (a | a | a)
      · exact .inl a
      · exact .inr a
      · exact absurd a.symm e
theorem Ups.ext {listed' : Array Bool} (h : Ups l0 listed X) (h' : Ups l0 listed' X) : listed = listed' := by
  refine Array.ext (h.1.trans h'.1.symm) fun i h1 h2 => ?_
  have hi : i < l0.size := by rw [← h.1]; exact h1
  have a := (h.2 i hi).trans (h'.2 i hi).symm
  simp only [Array.getD_eq_getD_getElem?, Array.getElem?_eq_getElem h1, Array.getElem?_eq_getElem h2, Option.getD_some] at a
  cases e1 : listed[i] <;> cases e2 : listed'[i] <;> simp_all
end

section
variable {P : Program} {ops : Array Oper} {Q : Exit → Act → World → Prop} {md : Region.Mode} {S : World → Prop} {d : Nat}
end
end Go.Proofs.YtcndphefomigeaaDoor
/- An operation that makes memory beside a chain of calls, where what it makes hangs on what the calls hand back: whatever the order. -/
namespace Go.Proofs.YtcndphefomigeaaDoor
open Go.RowKit
section
variable {P : Program} {ops : Array Oper} {Q : Exit → Act → World → Prop} {md : Region.Mode} {S : World → Prop} {d : Option Nat}
/-- d has not come up (none: whatever has come up). -/
def Gd (d : Option Nat) (l : Array Bool) : Prop := ∀ x, d = some x → l.getD x true = false
theorem Gd.set {d : Option Nat} {l : Array Bool} {i : Nat} (hne : some i ≠ d) : Gd d (l.setIfInBounds i true) ↔ Gd d l :=
  forall_congr' fun x => forall_congr' fun h => by rw [getD_set_ne (j := x) true (fun e : i = x => hne (by rw [h, e]))]
end
end Go.Proofs.YtcndphefomigeaaDoor
