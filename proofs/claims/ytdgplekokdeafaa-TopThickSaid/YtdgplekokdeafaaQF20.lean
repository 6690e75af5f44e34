/- the reference of frost: a cold day. -/
import Derived.Test.YtdgplekokdeafaaQKF2
import Derived.Test.YtdgplekokdeafaaQK1
set_option linter.unusedVariables false
set_option linter.unusedSimpArgs false
set_option linter.unnecessarySimpa false
namespace Go.Proofs.Ytdgplekokdeafaa
open Go.RowKit
set_option maxRecDepth 100000
end Go.Proofs.Ytdgplekokdeafaa
