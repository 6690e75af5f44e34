/- build and its reference: what is too big. -/
import Derived.Test.YtcoldeolmleeiaaGreatKGG3
import Derived.Test.YtcoldeolmleeiaaGreatKJ10
import Derived.Test.YtcoldeolmleeiaaGreatKKW
import Derived.Test.YtcoldeolmleeiaaGreatKK1
import Derived.OwnWalk
import Derived.Test.YtcoldeolmleeiaaGreatKGG2
import Derived.Test.YtcoldeolmleeiaaGreatKKA
import Derived.Test.YtcoldeolmleeiaaGreatKKC
import Derived.Test.YtcoldeolmleeiaaGreatKMixG
set_option linter.unusedVariables false
set_option linter.unusedSimpArgs false
set_option linter.unnecessarySimpa false
namespace Go.Proofs.YtcoldeolmleeiaaGreat
open Go.RowKit
set_option maxRecDepth 100000
attribute [local go_sem] Oper.semAt_some
end Go.Proofs.YtcoldeolmleeiaaGreat
/- build and its reference: hours by the reference. -/
namespace Go.Proofs.YtcoldeolmleeiaaGreat
open Go.RowKit
set_option maxRecDepth 100000
section
variable {w0 A B : World} {L : List Res} {base : Nat}
end
attribute [local go_sem] Oper.semAt_some
end Go.Proofs.YtcoldeolmleeiaaGreat
/- make of a row of numbers. -/
namespace Go.Proofs.YtcoldeolmleeiaaGreat
open Go.RowKit
set_option maxRecDepth 100000
attribute [local go_sem] Oper.semAt_some
end Go.Proofs.YtcoldeolmleeiaaGreat
/- make of a row, in a region that draws. -/
namespace Go.Proofs.YtcoldeolmleeiaaGreat
open Go.RowKit
set_option maxRecDepth 100000
attribute [local go_sem] Oper.semAt_some
end Go.Proofs.YtcoldeolmleeiaaGreat
/- build and its reference: a site at its first hour. -/
namespace Go.Proofs.YtcoldeolmleeiaaGreat
open Go.RowKit
set_option maxRecDepth 100000
attribute [local go_sem] Oper.semAt_some
theorem SiteOk.of {c : Cs} {N : Nat} (h : CsOk c) (ha : ∀ i, i < N -> ∀ a ∈ c.af i, 0 <= a /\ a < i) : SiteOk c N := ⟨fun i => (h.ho i).1, fun i => (h.wa i).1, fun i => (h.fr i).1, ha⟩
section
variable {c : Cs} {N : Nat} (H : SiteOk c N)
include H
end
end Go.Proofs.YtcoldeolmleeiaaGreat
