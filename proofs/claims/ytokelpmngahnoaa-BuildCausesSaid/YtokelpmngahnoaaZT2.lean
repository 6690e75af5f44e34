/- build and its reference: the reference's plan. -/
import Derived.Test.YtokelpmngahnoaaZT1
import Derived.Test.YtokelpmngahnoaaZKB
import Derived.Test.YtokelpmngahnoaaZKC
set_option linter.unusedVariables false
set_option linter.unusedSimpArgs false
set_option linter.unnecessarySimpa false
namespace Go.Proofs.Ytokelpmngahnoaa
open Go.RowKit
set_option maxRecDepth 100000
attribute [local go_sem] Oper.semAt_some
end Go.Proofs.Ytokelpmngahnoaa
