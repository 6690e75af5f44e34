/- frost: Run. -/
import Derived.Test.YtgkjicejaalijaaDoorF13
set_option linter.unusedVariables false
set_option linter.unusedSimpArgs false
set_option linter.unnecessarySimpa false
namespace Go.Proofs.YtgkjicejaalijaaDoor
open Go.RowKit Go.Shelf
set_option maxRecDepth 100000
attribute [local go_sem] Oper.semAt_some

theorem Own.cast {α : Type} {enc : α → List Value} {e : TypeId} {sz base : Nat} {w : World} {v : Value} {l l' : List α} (h : Own enc e sz base w v l) (hl : l' = l) : Own enc e sz base w v l' := hl ▸ h
theorem Bun.nilrow {α : Type} (enc : α → List Value) (e : TypeId) (sz : Nat) {w0 A : World} {L : List Res} (h : Bun w0 L A) : Bun w0 (rown enc e sz w0.heap.size (.slice none 0 0) [] :: L) A :=
  h.add (rown enc e sz w0.heap.size (.slice none 0 0) []) (gb_refl _ _) (Own.nil _ _ _ _ _) fun g e => by cases e
end Go.Proofs.YtgkjicejaalijaaDoor
