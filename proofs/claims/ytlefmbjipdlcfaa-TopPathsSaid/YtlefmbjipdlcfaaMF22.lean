/- the reference of frost: a day. -/
import Derived.Test.YtlefmbjipdlcfaaMF20
import Derived.Test.YtlefmbjipdlcfaaMF21
import Derived.Test.YtlefmbjipdlcfaaMK1
set_option linter.unusedVariables false
set_option linter.unusedSimpArgs false
set_option linter.unnecessarySimpa false
namespace Go.Proofs.Ytlefmbjipdlcfaa
open Go.RowKit
set_option maxRecDepth 100000
end Go.Proofs.Ytlefmbjipdlcfaa
