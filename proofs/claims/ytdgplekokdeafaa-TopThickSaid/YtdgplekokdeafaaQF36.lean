/- the reference of frost: when ice is ready. -/
import Derived.Test.YtdgplekokdeafaaQKF4
import Derived.Test.YtdgplekokdeafaaQKF1
import Derived.Test.YtdgplekokdeafaaQF16
import Derived.Test.YtdgplekokdeafaaQKF2
set_option linter.unusedVariables false
set_option linter.unusedSimpArgs false
set_option linter.unnecessarySimpa false
namespace Go.Proofs.Ytdgplekokdeafaa
open Go.RowKit
set_option maxRecDepth 100000
end Go.Proofs.Ytdgplekokdeafaa
