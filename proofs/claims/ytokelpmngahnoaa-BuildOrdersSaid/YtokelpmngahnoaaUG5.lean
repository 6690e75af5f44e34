/- build: what is so of the chain; Listed. -/
import Derived.Test.YtokelpmngahnoaaUG2
import Derived.Test.YtokelpmngahnoaaUG4
set_option linter.unusedVariables false
set_option linter.unusedSimpArgs false
set_option linter.unnecessarySimpa false
namespace Go.Proofs.Ytokelpmngahnoaa
open Go.RowKit
set_option maxRecDepth 100000
attribute [local go_sem] Oper.semAt_some
theorem ints_get {r : List Nat} {i x : Nat} (h : r[i]? = some x) : (ints r)[i]? = some (x : Int) := by rw [ints, List.getElem?_map, h]; rfl
end Go.Proofs.Ytokelpmngahnoaa
