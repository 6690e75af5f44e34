/- the kit of frost: numbers taken into bounds; laws, days within, true ice after a day, made of numbers. -/
import Derived.Test.YtlefmbjipdlcfaaMF29
import Derived.Test.YtlefmbjipdlcfaaMKF2
import Derived.Test.YtlefmbjipdlcfaaMK1
set_option linter.unusedVariables false
set_option linter.unusedSimpArgs false
set_option linter.unnecessarySimpa false
namespace Go.Proofs.Ytlefmbjipdlcfaa
open Go.RowKit
set_option maxRecDepth 100000
end Go.Proofs.Ytlefmbjipdlcfaa
