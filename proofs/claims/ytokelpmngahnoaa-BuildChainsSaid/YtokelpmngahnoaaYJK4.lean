/- the kit of build: jobs within jobs. -/
import Derived.Test.YtokelpmngahnoaaYJK3
import Derived.Test.YtokelpmngahnoaaYKA
import Derived.Test.YtokelpmngahnoaaYK1
import Derived.Test.YtokelpmngahnoaaYJ8
set_option linter.unusedVariables false
set_option linter.unusedSimpArgs false
set_option linter.unnecessarySimpa false
namespace Go.Proofs.Ytokelpmngahnoaa
open Go.RowKit
set_option maxRecDepth 100000
attribute [local go_sem] Oper.semAt_some
end Go.Proofs.Ytokelpmngahnoaa
