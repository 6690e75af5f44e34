/- the kit of build: copies of jobs. -/
import Derived.Test.YtokelpmngahnoaaYJK
import Derived.Test.YtokelpmngahnoaaYKC
import Derived.Test.YtokelpmngahnoaaYK1
set_option linter.unusedVariables false
set_option linter.unusedSimpArgs false
set_option linter.unnecessarySimpa false
namespace Go.Proofs.Ytokelpmngahnoaa
open Go.RowKit
set_option maxRecDepth 100000
attribute [local go_sem] Oper.semAt_some
end Go.Proofs.Ytokelpmngahnoaa
