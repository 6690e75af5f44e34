/- Ways that part over a piece of code meet again behind it. -/
import Derived.Test.YtokelpmngahnoaaZK1
set_option linter.unusedVariables false
set_option linter.unusedSimpArgs false
set_option linter.unnecessarySimpa false
namespace Go.Proofs.Ytokelpmngahnoaa
open Go.RowKit
section
variable {P : Program} {ops : Array Oper} {Q : Exit → Act → World → Prop} {md : Region.Mode} {S : World → Prop} {d : Nat}
end
end Go.Proofs.Ytokelpmngahnoaa
