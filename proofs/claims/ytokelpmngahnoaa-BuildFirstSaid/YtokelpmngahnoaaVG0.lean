/- build: what holds the road up: the chain. -/
import Derived.Test.YtokelpmngahnoaaVKA
import Derived.Test.YtokelpmngahnoaaVJ8
set_option linter.unusedVariables false
set_option linter.unusedSimpArgs false
set_option linter.unnecessarySimpa false
namespace Go.Proofs.Ytokelpmngahnoaa
open Go.RowKit
section
variable (c : Cs) (N : Nat)
end
section
variable {c : Cs} {N : Nat} (H : SiteOk c N)
include H
end
end Go.Proofs.Ytokelpmngahnoaa
