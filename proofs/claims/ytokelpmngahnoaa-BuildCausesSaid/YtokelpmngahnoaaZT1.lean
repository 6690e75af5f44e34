/- build and its reference: the reference's cases. -/
import Derived.Test.YtokelpmngahnoaaZE1
import Derived.Test.YtokelpmngahnoaaZKB
import Derived.Test.YtokelpmngahnoaaZKA
import Derived.Test.YtokelpmngahnoaaZKC
import Derived.Test.YtokelpmngahnoaaZMixG
set_option linter.unusedVariables false
set_option linter.unusedSimpArgs false
set_option linter.unnecessarySimpa false
namespace Go.Proofs.Ytokelpmngahnoaa
open Go.RowKit
set_option maxRecDepth 100000
attribute [local go_sem] Oper.semAt_some
end Go.Proofs.Ytokelpmngahnoaa
