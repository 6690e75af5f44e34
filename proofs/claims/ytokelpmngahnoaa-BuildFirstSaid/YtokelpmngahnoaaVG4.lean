/- build: a task that takes some hours more. -/
import Derived.Test.YtokelpmngahnoaaVT4
import Derived.Test.YtokelpmngahnoaaVKA
set_option linter.unusedVariables false
set_option linter.unusedSimpArgs false
set_option linter.unnecessarySimpa false
namespace Go.Proofs.Ytokelpmngahnoaa
open Go.RowKit
theorem tsksErr_all {nm : Int} : ∀ {l : List Tsk} {i : Nat}, (∀ (k : Nat) (t : Tsk), l[k]? = some t -> tskErr nm ((i + k : Nat) : Int) t = 0) -> tsksErr nm i l = 0
 | [], _, _ => rfl
 | y :: l, i, h => by
  have h0 := h 0 y rfl
  rw [Nat.add_zero] at h0
  rw [tsksErr, if_neg (not_not_intro h0)]
  refine tsksErr_all (l := l) (i := i + 1) (fun k t hk => ?_)
  have := h (k + 1) t (by simpa using hk)
  rwa [show i + (k + 1) = i + 1 + k by omega] at this
end Go.Proofs.Ytokelpmngahnoaa
