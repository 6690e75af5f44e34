/- The arguments of a statement, opened: lists of numbers, spans. -/
import Derived.Test.YtcoldeolmleeiaaGreatKK1
import Derived.ProofKit
import Derived.OpenShut
import Derived.ShutString
import Derived.ChangeOld
import Derived.Below
import Derived.Deep.Slices
import Derived.Test.YtcoldeolmleeiaaGreatKKF1
import Derived.Test.YtcoldeolmleeiaaGreatKGG8
set_option linter.unusedVariables false
set_option linter.unusedSimpArgs false
set_option linter.unnecessarySimpa false
namespace Go.Proofs.YtcoldeolmleeiaaGreat
open Go.ChangeShapes Go.WideShapes Go.ChangeAt Go.RowKit
set_option maxRecDepth 100000
section
variable {H : Type} {enc : TypeId × Value -> H} {P : Program} {w : World} {base : Nat} {spare : Nat -> Bool} {held : Bool}
end
theorem own_ : ownKnob Tryz.prog.godebug = none := by kernel_rfl
end Go.Proofs.YtcoldeolmleeiaaGreat
