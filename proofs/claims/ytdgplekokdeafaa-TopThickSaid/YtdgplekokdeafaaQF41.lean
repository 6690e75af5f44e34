/- the reference of frost: Flood. -/
import Derived.Test.YtdgplekokdeafaaQKF4
import Derived.Test.YtdgplekokdeafaaQF40
set_option linter.unusedVariables false
set_option linter.unusedSimpArgs false
set_option linter.unnecessarySimpa false
namespace Go.Proofs.Ytdgplekokdeafaa
open Go.RowKit
set_option maxRecDepth 100000
attribute [local go_sem] Oper.semAt_some
end Go.Proofs.Ytdgplekokdeafaa
