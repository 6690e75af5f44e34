/- build: a task that takes some hours more. -/
import Derived.Test.YtokelpmngahnoaaUT4
import Derived.Test.YtokelpmngahnoaaUKA
set_option linter.unusedVariables false
set_option linter.unusedSimpArgs false
set_option linter.unnecessarySimpa false
namespace Go.Proofs.Ytokelpmngahnoaa
open Go.RowKit
end Go.Proofs.Ytokelpmngahnoaa
