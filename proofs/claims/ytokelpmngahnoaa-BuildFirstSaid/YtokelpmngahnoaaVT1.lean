/- build and its reference: the reference's cases. -/
import Derived.Test.YtokelpmngahnoaaVE1
import Derived.Test.YtokelpmngahnoaaVKB
import Derived.Test.YtokelpmngahnoaaVKA
import Derived.Test.YtokelpmngahnoaaVKC
import Derived.Test.YtokelpmngahnoaaVMixG
set_option linter.unusedVariables false
set_option linter.unusedSimpArgs false
set_option linter.unnecessarySimpa false
namespace Go.Proofs.Ytokelpmngahnoaa
open Go.RowKit
set_option maxRecDepth 100000
attribute [local go_sem] Oper.semAt_some
end Go.Proofs.Ytokelpmngahnoaa
