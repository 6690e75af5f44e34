/- A region that draws its order, gone through state by state: what has come up, not in which order. -/
import Derived.Test.YtokelpmngahnoaaK1
import Derived.Test.YtokelpmngahnoaaMeet
set_option linter.unusedVariables false
set_option linter.unusedSimpArgs false
set_option linter.unnecessarySimpa false
namespace Go.Proofs.Ytokelpmngahnoaa
open Go.RowKit
section
variable {P : Program} {ops : Array Oper} {Q : Exit → Act → World → Prop} {md : Region.Mode} {S : World → Prop} {d : Nat}
/-- A state of a region: behind it, from wherever its relation I holds. -/
theorem ru_state (n : Nat) (I : (Nat → Value) → World → Prop) (listed' : Array Bool) (fuel' : Nat) {fuel : Nat} {listed : Array Bool} {a : Act} {w : World}
    (h : ∀ t w', I t w' → wpAnyU P md ops Q S d fuel' listed' { tmps := ((List.range n).map t).toArray, defers := [] } w')
    (k : Hid (∀ (l : Array Bool) (a' : Act) (w' : World), l = listed' → a'.tmps.size = n → a'.defers = [] → I (slot a'.tmps) w' → wpAnyU P md ops Q S d fuel' l a' w') → wpAnyU P md ops Q S d fuel listed a w) : wpAnyU P md ops Q S d fuel listed a w :=
  k (Lib.hid fun l a' w' h0 h1 h2 h3 => by
    subst h0
    obtain ⟨T, ds⟩ := a'
    simp only at h1 h2
    subst h2
    have e : T = ((List.range n).map (slot T)).toArray := by
      refine Array.ext (by simp [h1]) fun i h1 h2 => ?_
      simp [slot, h1]
    have hr := h (slot T) w' h3
    rw [← e] at hr
    exact hr)
end
end Go.Proofs.Ytokelpmngahnoaa
