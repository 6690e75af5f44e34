/- build and its reference: a site at its first hour. -/
import Derived.Test.YtokelpmngahnoaaYT2
import Derived.Test.YtokelpmngahnoaaYKB
import Derived.Test.YtokelpmngahnoaaYJK3
set_option linter.unusedVariables false
set_option linter.unusedSimpArgs false
set_option linter.unnecessarySimpa false
namespace Go.Proofs.Ytokelpmngahnoaa
open Go.RowKit
set_option maxRecDepth 100000
attribute [local go_sem] Oper.semAt_some
theorem SiteOk.of {c : Cs} {N : Nat} (h : CsOk c) (ha : ∀ i, i < N -> ∀ a ∈ c.af i, 0 <= a /\ a < i) : SiteOk c N := ⟨fun i => (h.ho i).1, fun i => (h.wa i).1, fun i => (h.fr i).1, ha⟩
section
variable {c : Cs} {N : Nat} (H : SiteOk c N)
include H
end
end Go.Proofs.Ytokelpmngahnoaa
