/- build: a case made of numbers, within what is known; what a call need not look at is put aside. -/
import Derived.Test.YtokelpmngahnoaaZS4
import Derived.Test.YtokelpmngahnoaaZE0
import Derived.Test.YtokelpmngahnoaaZL0
set_option linter.unusedVariables false
set_option linter.unusedSimpArgs false
set_option linter.unnecessarySimpa false
namespace Go.Proofs.Ytokelpmngahnoaa
open Go.RowKit
set_option maxRecDepth 100000
section
variable {w0 A B : World} {K l N : List Res}
end
end Go.Proofs.Ytokelpmngahnoaa
