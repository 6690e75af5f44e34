/- build and its reference: an hour on the site. -/
import Derived.Test.YtokelpmngahnoaaVS2
set_option linter.unusedVariables false
set_option linter.unusedSimpArgs false
set_option linter.unnecessarySimpa false
namespace Go.Proofs.Ytokelpmngahnoaa
open Go.RowKit
set_option maxRecDepth 100000
attribute [local go_sem] Oper.semAt_some
section
variable {c : Cs} {N h i : Nat}
end
end Go.Proofs.Ytokelpmngahnoaa
