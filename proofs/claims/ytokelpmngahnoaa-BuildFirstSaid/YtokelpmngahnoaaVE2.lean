/- the kit of build: jobs made of numbers, all of their own. -/
import Derived.Test.YtokelpmngahnoaaVJK
import Derived.Test.YtokelpmngahnoaaVJK4
import Derived.Test.YtokelpmngahnoaaVK1
set_option linter.unusedVariables false
set_option linter.unusedSimpArgs false
set_option linter.unnecessarySimpa false
namespace Go.Proofs.Ytokelpmngahnoaa
open Go.RowKit
set_option maxRecDepth 100000
end Go.Proofs.Ytokelpmngahnoaa
