/- Ways that part over a piece of code meet again behind it. -/
import Derived.Test.YtokelpmngahnoaaK1
set_option linter.unusedVariables false
set_option linter.unusedSimpArgs false
set_option linter.unnecessarySimpa false
namespace Go.Proofs.Ytokelpmngahnoaa
open Go.RowKit
theorem wp_cutH {P : Program} {c : Code} {K0 : Act → World → Prop} {Q : Exit → Act → World → Prop} {a : Act} {w : World} (n : Nat) (R : (Nat → Value) → World → Prop)
    (first : ∀ K : Act → World → Prop, Hid (∀ a' w', a'.tmps.size = n → a'.defers = [] → R (slot a'.tmps) w' → K a' w') → c.wp P (Exit.then K Q) a w)
    (rest : ∀ t w', R t w' → K0 { tmps := ((List.range n).map t).toArray, defers := [] } w') : c.wp P (Exit.then K0 Q) a w :=
  first K0 (Lib.hid fun a' w' h1 h2 h3 => by
    obtain ⟨T, ds⟩ := a'
    simp only at h1 h2
    subst h2
    have e : T = ((List.range n).map (slot T)).toArray := by
      refine Array.ext (by simp [h1]) fun i h1 h2 => ?_
      simp [slot, h1]
    have hr := rest (slot T) w' h3
    rw [← e] at hr
    exact hr)
section
variable {P : Program} {ops : Array Oper} {Q : Exit → Act → World → Prop} {md : Region.Mode} {S : World → Prop} {d : Nat}
theorem ru_four (i j k m : Nat) {oi oj ok om : Oper} {fuel : Nat} {listed : Array Bool} {a : Act} {w : World} (hi : ops[i]? = some oi) (hj : ops[j]? = some oj) (hk : ops[k]? = some ok) (hm : ops[m]? = some om) (hr : Region.ready md ops listed = [i, j, k, m])
    (h1 : RuStep P md ops Q S d fuel listed a w i oi) (h2 : RuStep P md ops Q S d fuel listed a w j oj) (h3 : RuStep P md ops Q S d fuel listed a w k ok) (h4 : RuStep P md ops Q S d fuel listed a w m om) : wpAnyU P md ops Q S d (fuel + 1) listed a w := by
  refine ⟨fun h0 => (by rw [hr] at h0; cases h0), fun x hx => ?_⟩
  rw [hr] at hx
  rcases List.mem_cons.1 hx with rfl | hx
  · exact h1.op hi
  · rcases List.mem_cons.1 hx with rfl | hx
    · exact h2.op hj
    · rcases List.mem_cons.1 hx with rfl | hx
      · exact h3.op hk
      · rw [List.mem_singleton] at hx; subst hx; exact h4.op hm
end
end Go.Proofs.Ytokelpmngahnoaa
