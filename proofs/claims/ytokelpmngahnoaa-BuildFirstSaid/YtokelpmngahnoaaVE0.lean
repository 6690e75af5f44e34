/- build and its reference: on which days a machine works. -/
import Derived.Test.YtokelpmngahnoaaVJ10
import Derived.Test.YtokelpmngahnoaaVW0
set_option linter.unusedVariables false
set_option linter.unusedSimpArgs false
set_option linter.unnecessarySimpa false
namespace Go.Proofs.Ytokelpmngahnoaa
open Go.RowKit
set_option maxRecDepth 100000
attribute [local go_sem] Oper.semAt_some
end Go.Proofs.Ytokelpmngahnoaa
