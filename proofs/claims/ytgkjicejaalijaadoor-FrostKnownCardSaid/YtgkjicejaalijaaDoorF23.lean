/- the kit of frost: ice made of numbers. -/
import Derived.Test.YtgkjicejaalijaaDoorF9
import Derived.Test.YtgkjicejaalijaaDoorK1
import Derived.Test.YtgkjicejaalijaaDoorF14
set_option linter.unusedVariables false
set_option linter.unusedSimpArgs false
set_option linter.unnecessarySimpa false
namespace Go.Proofs.YtgkjicejaalijaaDoor
open Go.RowKit
set_option maxRecDepth 100000

end Go.Proofs.YtgkjicejaalijaaDoor
