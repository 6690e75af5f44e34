/- build and its reference: hours by the reference. -/
import Derived.Test.YtokelpmngahnoaaZJ10
import Derived.Test.YtokelpmngahnoaaZW0
import Derived.Test.YtokelpmngahnoaaZK1
import Derived.OwnWalk
import Derived.Test.YtokelpmngahnoaaZJK
set_option linter.unusedVariables false
set_option linter.unusedSimpArgs false
set_option linter.unnecessarySimpa false
namespace Go.Proofs.Ytokelpmngahnoaa
open Go.RowKit
set_option maxRecDepth 100000
end Go.Proofs.Ytokelpmngahnoaa
/- make of a row of truth values. -/
namespace Go.Proofs.Ytokelpmngahnoaa
open Go.RowKit

set_option maxRecDepth 100000
end Go.Proofs.Ytokelpmngahnoaa
/- Rows of truth values that lie behind a row of slices. -/
namespace Go.Proofs.Ytokelpmngahnoaa
open Go.RowKit
set_option maxRecDepth 100000
section
variable {w0 A B : World} {L : List Res} {base : Nat}
end
end Go.Proofs.Ytokelpmngahnoaa
/- make of a row of numbers. -/
namespace Go.Proofs.Ytokelpmngahnoaa
open Go.RowKit

end Go.Proofs.Ytokelpmngahnoaa
/- make of a row, in a region that draws. -/
namespace Go.Proofs.Ytokelpmngahnoaa
open Go.RowKit

set_option maxRecDepth 100000
end Go.Proofs.Ytokelpmngahnoaa
