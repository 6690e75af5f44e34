/- build and its reference: what is wrong with jobs, by the reference. -/
import Derived.Test.YtdgplekokdeafaaQJ3
set_option linter.unusedVariables false
set_option linter.unusedSimpArgs false
set_option linter.unnecessarySimpa false
namespace Go.Proofs.Ytdgplekokdeafaa
open Go.RowKit
set_option maxRecDepth 100000
end Go.Proofs.Ytdgplekokdeafaa
