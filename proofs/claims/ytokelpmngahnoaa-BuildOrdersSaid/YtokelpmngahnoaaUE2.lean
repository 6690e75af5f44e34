/- the kit of build: jobs made of numbers, all of their own. -/
import Derived.Test.YtokelpmngahnoaaUJK
import Derived.Test.YtokelpmngahnoaaUJK4
import Derived.Test.YtokelpmngahnoaaUK1
set_option linter.unusedVariables false
set_option linter.unusedSimpArgs false
set_option linter.unnecessarySimpa false
namespace Go.Proofs.Ytokelpmngahnoaa
open Go.RowKit
set_option maxRecDepth 100000
theorem jobAt_own {base : Nat} {w : World} {v1 v2 : Value} {lm : List Mch} {lt : List Tsk} (hm : Own mchEnc 77 3 base w v1 lm) (ht : Own tskEncS 79 8 base w v2 lt) (ha : ∀ t ∈ lt, Own intEnc 3 1 base w t.av t.af) (hs : ∀ t ∈ lt, sliceB t.av = true) : JobAt 0 w.heap.size w v1 v2 lm lt :=
 ⟨(Own.sl hm (fun _ => rfl)).wide (Nat.zero_le _) (Nat.le_refl _), (slS (Own.sl ht (fun _ => rfl)) hs).wide (Nat.zero_le _) (Nat.le_refl _), fun t h => ⟨(Own.sl (ha t h) (fun _ => rfl)).wide (Nat.zero_le _) (Nat.le_refl _), own_cap (ha t h)⟩⟩
end Go.Proofs.Ytokelpmngahnoaa
