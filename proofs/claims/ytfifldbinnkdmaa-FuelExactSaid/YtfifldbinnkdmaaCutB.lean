/- The ways out of a block meet again. -/
import Derived.Test.YtfifldbinnkdmaaMarks
set_option linter.unusedVariables false
set_option linter.unusedSimpArgs false
set_option linter.unnecessarySimpa false
namespace Go.Proofs.Ytfifldbinnkdmaa
open Go.RowKit
theorem wp_cutB {P : Program} {c : Code} {K : Act → World → Prop} {Q : Exit → Act → World → Prop} {a : Act} {w : World} (l n : Nat) (R : (Nat → Value) → World → Prop)
    (first : c.wp P (Exit.inBlock l (Exit.then (fun a' w' => a'.tmps.size = n ∧ a'.defers = [] ∧ R (slot a'.tmps) w') Q)) a w)
    (rest : ∀ t w', R t w' → K { tmps := ((List.range n).map t).toArray, defers := [] } w') : c.wp P (Exit.inBlock l (Exit.then K Q)) a w := by
  have key : ∀ a' w', (a'.tmps.size = n ∧ a'.defers = [] ∧ R (slot a'.tmps) w') → K a' w' := fun a' w' h => by
    obtain ⟨T, ds⟩ := a'
    obtain ⟨h1, h2, h3⟩ := h
    simp only at h1 h2
    subst h2
    have e : T = ((List.range n).map (slot T)).toArray := by
      refine Array.ext (by simp [h1]) fun i h1 h2 => ?_
      simp [slot, h1]
    have hr := rest (slot T) w' h3
    rw [← e] at hr
    exact hr
  refine wp_mono first fun e a' w' h => ?_
  unfold Exit.inBlock at h ⊢
  cases e with
  | normal => exact key a' w' h
  | exit l' =>
    dsimp only at h ⊢
    split at h
    · rename_i hc; rw [if_pos hc]; exact key a' w' h
    · rename_i hc; rw [if_neg hc]; exact h
  | _ => exact h
end Go.Proofs.Ytfifldbinnkdmaa
