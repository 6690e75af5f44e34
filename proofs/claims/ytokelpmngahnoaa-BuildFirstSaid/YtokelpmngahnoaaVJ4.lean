/- build and its reference: what is wrong with jobs, by the reference. -/
import Derived.Test.YtokelpmngahnoaaVJ3
set_option linter.unusedVariables false
set_option linter.unusedSimpArgs false
set_option linter.unnecessarySimpa false
namespace Go.Proofs.Ytokelpmngahnoaa
open Go.RowKit
set_option maxRecDepth 100000
end Go.Proofs.Ytokelpmngahnoaa
