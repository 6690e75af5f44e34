/- the kit of frost: days made of numbers. -/
import Derived.Test.YtlefmbjipdlcfaaMKF1
import Derived.Test.YtlefmbjipdlcfaaMKF2
import Derived.Test.YtlefmbjipdlcfaaMK1
set_option linter.unusedVariables false
set_option linter.unusedSimpArgs false
set_option linter.unnecessarySimpa false
namespace Go.Proofs.Ytlefmbjipdlcfaa
open Go.RowKit
set_option maxRecDepth 100000
theorem Bus.nilrow {α : Type} (enc : α -> List Value) (e : TypeId) (sz : Nat) {w0 A : World} {sd : Nat} {L : List Res} (h : Bus w0 sd L A) : Bus w0 sd (rown enc e sz w0.heap.size (.slice none 0 0) [] :: L) A :=
 h.add (rown enc e sz w0.heap.size (.slice none 0 0) []) (gb_refl _ _) (Own.nil _ _ _ _ _) fun g e => by cases e
end Go.Proofs.Ytlefmbjipdlcfaa
