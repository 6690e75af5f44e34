/- build: a row turned round. -/
import Derived.Test.YtokelpmngahnoaaUS6
import Derived.Test.YtokelpmngahnoaaUG0
set_option linter.unusedVariables false
set_option linter.unusedSimpArgs false
set_option linter.unnecessarySimpa false
namespace Go.Proofs.Ytokelpmngahnoaa
open Go.RowKit
set_option maxRecDepth 100000
attribute [local go_sem] Oper.semAt_some
end Go.Proofs.Ytokelpmngahnoaa
