/- build and its reference: spans within spans; Times of what has no error. -/
import Derived.Test.YtokelpmngahnoaaUJ10
set_option linter.unusedVariables false
set_option linter.unusedSimpArgs false
set_option linter.unnecessarySimpa false
namespace Go.Proofs.Ytokelpmngahnoaa
open Go.RowKit
set_option maxRecDepth 100000
end Go.Proofs.Ytokelpmngahnoaa
