/- build and its reference: jobs that are the same. -/
import Derived.Test.YtokelpmngahnoaaYJK
import Derived.Test.YtokelpmngahnoaaYJ10
import Derived.Test.YtokelpmngahnoaaYW2
import Derived.Test.YtokelpmngahnoaaYKC
set_option linter.unusedVariables false
set_option linter.unusedSimpArgs false
set_option linter.unnecessarySimpa false
namespace Go.Proofs.Ytokelpmngahnoaa
open Go.RowKit
set_option maxRecDepth 100000
attribute [local go_sem] Oper.semAt_some
end Go.Proofs.Ytokelpmngahnoaa
