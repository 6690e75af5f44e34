/- build and its reference: a site at its first hour. -/
import Derived.Test.YtokelpmngahnoaaVT2
import Derived.Test.YtokelpmngahnoaaVKB
import Derived.Test.YtokelpmngahnoaaVJK3
set_option linter.unusedVariables false
set_option linter.unusedSimpArgs false
set_option linter.unnecessarySimpa false
namespace Go.Proofs.Ytokelpmngahnoaa
open Go.RowKit
set_option maxRecDepth 100000
attribute [local go_sem] Oper.semAt_some
section
variable {c : Cs} {N : Nat} (H : SiteOk c N)
include H
end
end Go.Proofs.Ytokelpmngahnoaa
