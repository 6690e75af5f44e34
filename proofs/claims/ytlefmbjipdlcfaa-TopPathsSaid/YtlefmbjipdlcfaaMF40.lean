/- frost: Flood. -/
import Derived.Test.YtlefmbjipdlcfaaMKF1
import Derived.Test.YtlefmbjipdlcfaaMF29
import Derived.Test.YtlefmbjipdlcfaaMKC
import Derived.Test.YtlefmbjipdlcfaaMK1
set_option linter.unusedVariables false
set_option linter.unusedSimpArgs false
set_option linter.unnecessarySimpa false
namespace Go.Proofs.Ytlefmbjipdlcfaa
open Go.RowKit
set_option maxRecDepth 100000
open Go.Shelf
attribute [local go_sem] Oper.semAt_some
end Go.Proofs.Ytlefmbjipdlcfaa
