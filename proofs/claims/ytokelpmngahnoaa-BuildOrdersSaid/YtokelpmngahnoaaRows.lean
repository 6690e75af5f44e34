/-
  No cell of these rows narrows 'for every input' (looked for: loops, veiled, ifaces, maps, wideKeys, modest, calm, conditions, laid).
  DERIVED. THE GIVEN ROWS OF THIS SEAT. 11 by the template 'for every input the law returns true; each argument reads behind the call as it read before'; 0 by the template 'total and deterministic' (their statements: YtokelpmngahnoaaTotals.lean).
  GIVEN WITH THE SEED: the statements are not yours to turn. If you find one false, say at which input.
  Laid BY PROGRAM, IN A SANDBOX (cutbox-rows.mjs): the forced cells as the released guide's own fill.sh prints them over the translation 86f32eda2134259d… (all of the seat's roots in one cut). By AI agents, Wed Nov 11 2026. No macro, syntax, notation, axiom, sorry.
-/
import Derived.Test.YtokelpmngahnoaaChecked
import GoSem.Claim
import GoSem.ClaimJoined
import GoSem.ClaimMapViews
import Derived.JoinedTies
import Derived.KernelRfl
namespace Go.Proofs.Ytokelpmngahnoaa
/- THE CELL 'sum', in the pinned program and in every row, IS THE sha256 OF THE DUMP (.gsa) THAT YtokelpmngahnoaaProg.lean LOADS. Nothing in Lean hashes anything: it is a label: what it is worth is what the hold of that sum in a sandbox is worth. -/
noncomputable def Try.pinned : Pinned := { name := "ytokelpmngahnoaa", sum := "86f32eda2134259dd7d4f0f2508cb7cc8620ce42c91afbe8348acb70d60f4e58", checked := Try.checked }
namespace Rows
def none {H : Type} : Left H := { results := [], args := [] }

/-- 'sastrugilaw05.BuildTimes': WHATEVER THE INPUT: true; the input reads as it did. -/
def buildTimesSpec : ChangeSpec := { name := "buildTimes", fn := fun _ => fun
  | [d1, d2, d3] => { results := [.lit (.bool true)], args := [d1, d2, d3] }
  | _ => none }
def buildTimesRow : OpenClaim := { program := "ytokelpmngahnoaa", sum := "86f32eda2134259dd7d4f0f2508cb7cc8620ce42c91afbe8348acb70d60f4e58", func := "sastrugi/sastrugilaw05.BuildTimes", spec := "buildTimes", unfollowed := true, recurses := true, apart := false }
def BuildTimesSaid : Prop := buildTimesRow.holds Try.pinned (OpenSpec.ofChange buildTimesSpec)

/-- ITS FALSE NEIGHBOUR: 'it returns false'. Refute it at one input. -/
def buildTimesWrong : ChangeSpec := { name := "buildTimes", fn := fun _ => fun
  | [d1, d2, d3] => { results := [.lit (.bool false)], args := [d1, d2, d3] }
  | _ => none }
def BuildTimesWrongFalsely : Prop := buildTimesRow.holds Try.pinned (OpenSpec.ofChange buildTimesWrong)

/-- 'sastrugilaw05.BuildTruth': WHATEVER THE INPUT: true; the input reads as it did. -/
def buildTruthSpec : ChangeSpec := { name := "buildTruth", fn := fun _ => fun
  | [d] => { results := [.lit (.bool true)], args := [d] }
  | _ => none }
def buildTruthRow : OpenClaim := { program := "ytokelpmngahnoaa", sum := "86f32eda2134259dd7d4f0f2508cb7cc8620ce42c91afbe8348acb70d60f4e58", func := "sastrugi/sastrugilaw05.BuildTruth", spec := "buildTruth", unfollowed := true, recurses := true, apart := false }
def BuildTruthSaid : Prop := buildTruthRow.holds Try.pinned (OpenSpec.ofChange buildTruthSpec)

/-- ITS FALSE NEIGHBOUR: 'it returns false'. Refute it at one input. -/
def buildTruthWrong : ChangeSpec := { name := "buildTruth", fn := fun _ => fun
  | [d] => { results := [.lit (.bool false)], args := [d] }
  | _ => none }
def BuildTruthWrongFalsely : Prop := buildTruthRow.holds Try.pinned (OpenSpec.ofChange buildTruthWrong)

/-- 'sastrugilaw05.BuildEnds': WHATEVER THE INPUT: true; the input reads as it did. -/
def buildEndsSpec : ChangeSpec := { name := "buildEnds", fn := fun _ => fun
  | [d] => { results := [.lit (.bool true)], args := [d] }
  | _ => none }
def buildEndsRow : OpenClaim := { program := "ytokelpmngahnoaa", sum := "86f32eda2134259dd7d4f0f2508cb7cc8620ce42c91afbe8348acb70d60f4e58", func := "sastrugi/sastrugilaw05.BuildEnds", spec := "buildEnds", unfollowed := true, recurses := true, apart := false }
def BuildEndsSaid : Prop := buildEndsRow.holds Try.pinned (OpenSpec.ofChange buildEndsSpec)

/-- ITS FALSE NEIGHBOUR: 'it returns false'. Refute it at one input. -/
def buildEndsWrong : ChangeSpec := { name := "buildEnds", fn := fun _ => fun
  | [d] => { results := [.lit (.bool false)], args := [d] }
  | _ => none }
def BuildEndsWrongFalsely : Prop := buildEndsRow.holds Try.pinned (OpenSpec.ofChange buildEndsWrong)

/-- 'sastrugilaw05.BuildNarrows': WHATEVER THE INPUT: true; the input reads as it did. -/
def buildNarrowsSpec : ChangeSpec := { name := "buildNarrows", fn := fun _ => fun
  | [d] => { results := [.lit (.bool true)], args := [d] }
  | _ => none }
def buildNarrowsRow : OpenClaim := { program := "ytokelpmngahnoaa", sum := "86f32eda2134259dd7d4f0f2508cb7cc8620ce42c91afbe8348acb70d60f4e58", func := "sastrugi/sastrugilaw05.BuildNarrows", spec := "buildNarrows", unfollowed := true, recurses := true, apart := false }
def BuildNarrowsSaid : Prop := buildNarrowsRow.holds Try.pinned (OpenSpec.ofChange buildNarrowsSpec)

/-- ITS FALSE NEIGHBOUR: 'it returns false'. Refute it at one input. -/
def buildNarrowsWrong : ChangeSpec := { name := "buildNarrows", fn := fun _ => fun
  | [d] => { results := [.lit (.bool false)], args := [d] }
  | _ => none }
def BuildNarrowsWrongFalsely : Prop := buildNarrowsRow.holds Try.pinned (OpenSpec.ofChange buildNarrowsWrong)

/-- 'sastrugilaw05.BuildRoutes': WHATEVER THE INPUT: true; the input reads as it did. -/
def buildRoutesSpec : ChangeSpec := { name := "buildRoutes", fn := fun _ => fun
  | [d] => { results := [.lit (.bool true)], args := [d] }
  | _ => none }
def buildRoutesRow : OpenClaim := { program := "ytokelpmngahnoaa", sum := "86f32eda2134259dd7d4f0f2508cb7cc8620ce42c91afbe8348acb70d60f4e58", func := "sastrugi/sastrugilaw05.BuildRoutes", spec := "buildRoutes", unfollowed := true, recurses := true, apart := false }
def BuildRoutesSaid : Prop := buildRoutesRow.holds Try.pinned (OpenSpec.ofChange buildRoutesSpec)

/-- ITS FALSE NEIGHBOUR: 'it returns false'. Refute it at one input. -/
def buildRoutesWrong : ChangeSpec := { name := "buildRoutes", fn := fun _ => fun
  | [d] => { results := [.lit (.bool false)], args := [d] }
  | _ => none }
def BuildRoutesWrongFalsely : Prop := buildRoutesRow.holds Try.pinned (OpenSpec.ofChange buildRoutesWrong)

/-- 'sastrugilaw05.BuildChecks': WHATEVER THE INPUT: true; the input reads as it did. -/
def buildChecksSpec : ChangeSpec := { name := "buildChecks", fn := fun _ => fun
  | [d1, d2, d3, d4, d5] => { results := [.lit (.bool true)], args := [d1, d2, d3, d4, d5] }
  | _ => none }
def buildChecksRow : OpenClaim := { program := "ytokelpmngahnoaa", sum := "86f32eda2134259dd7d4f0f2508cb7cc8620ce42c91afbe8348acb70d60f4e58", func := "sastrugi/sastrugilaw05.BuildChecks", spec := "buildChecks", unfollowed := true, recurses := true, apart := false }
def BuildChecksSaid : Prop := buildChecksRow.holds Try.pinned (OpenSpec.ofChange buildChecksSpec)

/-- ITS FALSE NEIGHBOUR: 'it returns false'. Refute it at one input. -/
def buildChecksWrong : ChangeSpec := { name := "buildChecks", fn := fun _ => fun
  | [d1, d2, d3, d4, d5] => { results := [.lit (.bool false)], args := [d1, d2, d3, d4, d5] }
  | _ => none }
def BuildChecksWrongFalsely : Prop := buildChecksRow.holds Try.pinned (OpenSpec.ofChange buildChecksWrong)

/-- 'sastrugilaw05.BuildCauses': WHATEVER THE INPUT: true; the input reads as it did. -/
def buildCausesSpec : ChangeSpec := { name := "buildCauses", fn := fun _ => fun
  | [d] => { results := [.lit (.bool true)], args := [d] }
  | _ => none }
def buildCausesRow : OpenClaim := { program := "ytokelpmngahnoaa", sum := "86f32eda2134259dd7d4f0f2508cb7cc8620ce42c91afbe8348acb70d60f4e58", func := "sastrugi/sastrugilaw05.BuildCauses", spec := "buildCauses", unfollowed := true, recurses := true, apart := false }
def BuildCausesSaid : Prop := buildCausesRow.holds Try.pinned (OpenSpec.ofChange buildCausesSpec)

/-- ITS FALSE NEIGHBOUR: 'it returns false'. Refute it at one input. -/
def buildCausesWrong : ChangeSpec := { name := "buildCauses", fn := fun _ => fun
  | [d] => { results := [.lit (.bool false)], args := [d] }
  | _ => none }
def BuildCausesWrongFalsely : Prop := buildCausesRow.holds Try.pinned (OpenSpec.ofChange buildCausesWrong)

/-- 'sastrugilaw05.BuildIdle': WHATEVER THE INPUT: true; the input reads as it did. -/
def buildIdleSpec : ChangeSpec := { name := "buildIdle", fn := fun _ => fun
  | [d1, d2] => { results := [.lit (.bool true)], args := [d1, d2] }
  | _ => none }
def buildIdleRow : OpenClaim := { program := "ytokelpmngahnoaa", sum := "86f32eda2134259dd7d4f0f2508cb7cc8620ce42c91afbe8348acb70d60f4e58", func := "sastrugi/sastrugilaw05.BuildIdle", spec := "buildIdle", unfollowed := true, recurses := true, apart := false }
def BuildIdleSaid : Prop := buildIdleRow.holds Try.pinned (OpenSpec.ofChange buildIdleSpec)

/-- ITS FALSE NEIGHBOUR: 'it returns false'. Refute it at one input. -/
def buildIdleWrong : ChangeSpec := { name := "buildIdle", fn := fun _ => fun
  | [d1, d2] => { results := [.lit (.bool false)], args := [d1, d2] }
  | _ => none }
def BuildIdleWrongFalsely : Prop := buildIdleRow.holds Try.pinned (OpenSpec.ofChange buildIdleWrong)

/-- 'sastrugilaw05.BuildOrders': WHATEVER THE INPUT: true; the input reads as it did. -/
def buildOrdersSpec : ChangeSpec := { name := "buildOrders", fn := fun _ => fun
  | [d1, d2, d3] => { results := [.lit (.bool true)], args := [d1, d2, d3] }
  | _ => none }
def buildOrdersRow : OpenClaim := { program := "ytokelpmngahnoaa", sum := "86f32eda2134259dd7d4f0f2508cb7cc8620ce42c91afbe8348acb70d60f4e58", func := "sastrugi/sastrugilaw05.BuildOrders", spec := "buildOrders", unfollowed := true, recurses := true, apart := false }
def BuildOrdersSaid : Prop := buildOrdersRow.holds Try.pinned (OpenSpec.ofChange buildOrdersSpec)

/-- ITS FALSE NEIGHBOUR: 'it returns false'. Refute it at one input. -/
def buildOrdersWrong : ChangeSpec := { name := "buildOrders", fn := fun _ => fun
  | [d1, d2, d3] => { results := [.lit (.bool false)], args := [d1, d2, d3] }
  | _ => none }
def BuildOrdersWrongFalsely : Prop := buildOrdersRow.holds Try.pinned (OpenSpec.ofChange buildOrdersWrong)

/-- 'sastrugilaw05.BuildFirst': WHATEVER THE INPUT: true; the input reads as it did. -/
def buildFirstSpec : ChangeSpec := { name := "buildFirst", fn := fun _ => fun
  | [d] => { results := [.lit (.bool true)], args := [d] }
  | _ => none }
def buildFirstRow : OpenClaim := { program := "ytokelpmngahnoaa", sum := "86f32eda2134259dd7d4f0f2508cb7cc8620ce42c91afbe8348acb70d60f4e58", func := "sastrugi/sastrugilaw05.BuildFirst", spec := "buildFirst", unfollowed := true, recurses := true, apart := false }
def BuildFirstSaid : Prop := buildFirstRow.holds Try.pinned (OpenSpec.ofChange buildFirstSpec)

/-- ITS FALSE NEIGHBOUR: 'it returns false'. Refute it at one input. -/
def buildFirstWrong : ChangeSpec := { name := "buildFirst", fn := fun _ => fun
  | [d] => { results := [.lit (.bool false)], args := [d] }
  | _ => none }
def BuildFirstWrongFalsely : Prop := buildFirstRow.holds Try.pinned (OpenSpec.ofChange buildFirstWrong)

/-- 'sastrugilaw05.BuildChains': WHATEVER THE INPUT: true; the input reads as it did. -/
def buildChainsSpec : ChangeSpec := { name := "buildChains", fn := fun _ => fun
  | [d1, d2, d3, d4] => { results := [.lit (.bool true)], args := [d1, d2, d3, d4] }
  | _ => none }
def buildChainsRow : OpenClaim := { program := "ytokelpmngahnoaa", sum := "86f32eda2134259dd7d4f0f2508cb7cc8620ce42c91afbe8348acb70d60f4e58", func := "sastrugi/sastrugilaw05.BuildChains", spec := "buildChains", unfollowed := true, recurses := true, apart := false }
def BuildChainsSaid : Prop := buildChainsRow.holds Try.pinned (OpenSpec.ofChange buildChainsSpec)

/-- ITS FALSE NEIGHBOUR: 'it returns false'. Refute it at one input. -/
def buildChainsWrong : ChangeSpec := { name := "buildChains", fn := fun _ => fun
  | [d1, d2, d3, d4] => { results := [.lit (.bool false)], args := [d1, d2, d3, d4] }
  | _ => none }
def BuildChainsWrongFalsely : Prop := buildChainsRow.holds Try.pinned (OpenSpec.ofChange buildChainsWrong)

/- THE SECOND FORM. 'bulk': how many values and letters a reading holds, each counted each time it is reached (what is shared counts as often as it is met; a slice's spare places count too). A statement '..UptoSaid' is the law's where the arguments, and the package variables that the reading takes, are together of bulk at most 1048576: NARROWER than '..Said'. Prove '..Said' where nothing that the law and all that it calls make is longer than what came in: it says more and counts as full. Else prove '..UptoSaid'. A law counts once. -/
mutual
def uptoBulk {H : Type} : DataW H → Nat
  | .lit (.string bytes) => bytes.length + 1
  | .lit _ => 1
  | .nil => 1
  | .ptr d => uptoBulk d + 1
  | .slice elems spare => uptoBulkAll elems + uptoBulkAll spare + 1
  | .agg parts => uptoBulkAll parts + 1
  | .iface _ d => uptoBulk d + 1
  | .map entries => uptoBulkEntries entries + 1
  | .held _ => 1
def uptoBulkAll {H : Type} : List (DataW H) → Nat
  | [] => 0
  | d :: r => uptoBulk d + uptoBulkAll r
def uptoBulkEntries {H : Type} : List (Lit × DataW H) → Nat
  | [] => 0
  | x :: r => uptoBulkEntry x + uptoBulkEntries r
def uptoBulkEntry {H : Type} : Lit × DataW H → Nat
  | (.string bytes, d) => bytes.length + uptoBulk d + 1
  | (_, d) => uptoBulk d + 1
 end
def uptoSmall : (H : Type) → List (DataW H) → Bool := fun _ ds => decide (uptoBulkAll ds ≤ 1048576)
def OpenSpec.upto (s : _root_.Go.ChangeSpec) : _root_.Go.OpenSpec := { _root_.Go.OpenSpec.ofChange s with cond := some uptoSmall }

/-- 'sastrugilaw05.BuildTimes', WHERE WHAT IT READS IS OF BULK AT MOST 1048576: true; the input reads as it did. -/
def buildTimesUptoRow : OpenClaim := { program := "ytokelpmngahnoaa", sum := "86f32eda2134259dd7d4f0f2508cb7cc8620ce42c91afbe8348acb70d60f4e58", func := "sastrugi/sastrugilaw05.BuildTimes", spec := "buildTimes", unfollowed := true, recurses := true, apart := false, narrowed := true }
def BuildTimesUptoSaid : Prop := buildTimesUptoRow.holds Try.pinned (OpenSpec.upto buildTimesSpec)

/-- 'sastrugilaw05.BuildTruth', WHERE WHAT IT READS IS OF BULK AT MOST 1048576: true; the input reads as it did. -/
def buildTruthUptoRow : OpenClaim := { program := "ytokelpmngahnoaa", sum := "86f32eda2134259dd7d4f0f2508cb7cc8620ce42c91afbe8348acb70d60f4e58", func := "sastrugi/sastrugilaw05.BuildTruth", spec := "buildTruth", unfollowed := true, recurses := true, apart := false, narrowed := true }
def BuildTruthUptoSaid : Prop := buildTruthUptoRow.holds Try.pinned (OpenSpec.upto buildTruthSpec)

/-- 'sastrugilaw05.BuildEnds', WHERE WHAT IT READS IS OF BULK AT MOST 1048576: true; the input reads as it did. -/
def buildEndsUptoRow : OpenClaim := { program := "ytokelpmngahnoaa", sum := "86f32eda2134259dd7d4f0f2508cb7cc8620ce42c91afbe8348acb70d60f4e58", func := "sastrugi/sastrugilaw05.BuildEnds", spec := "buildEnds", unfollowed := true, recurses := true, apart := false, narrowed := true }
def BuildEndsUptoSaid : Prop := buildEndsUptoRow.holds Try.pinned (OpenSpec.upto buildEndsSpec)

/-- 'sastrugilaw05.BuildNarrows', WHERE WHAT IT READS IS OF BULK AT MOST 1048576: true; the input reads as it did. -/
def buildNarrowsUptoRow : OpenClaim := { program := "ytokelpmngahnoaa", sum := "86f32eda2134259dd7d4f0f2508cb7cc8620ce42c91afbe8348acb70d60f4e58", func := "sastrugi/sastrugilaw05.BuildNarrows", spec := "buildNarrows", unfollowed := true, recurses := true, apart := false, narrowed := true }
def BuildNarrowsUptoSaid : Prop := buildNarrowsUptoRow.holds Try.pinned (OpenSpec.upto buildNarrowsSpec)

/-- 'sastrugilaw05.BuildRoutes', WHERE WHAT IT READS IS OF BULK AT MOST 1048576: true; the input reads as it did. -/
def buildRoutesUptoRow : OpenClaim := { program := "ytokelpmngahnoaa", sum := "86f32eda2134259dd7d4f0f2508cb7cc8620ce42c91afbe8348acb70d60f4e58", func := "sastrugi/sastrugilaw05.BuildRoutes", spec := "buildRoutes", unfollowed := true, recurses := true, apart := false, narrowed := true }
def BuildRoutesUptoSaid : Prop := buildRoutesUptoRow.holds Try.pinned (OpenSpec.upto buildRoutesSpec)

/-- 'sastrugilaw05.BuildChecks', WHERE WHAT IT READS IS OF BULK AT MOST 1048576: true; the input reads as it did. -/
def buildChecksUptoRow : OpenClaim := { program := "ytokelpmngahnoaa", sum := "86f32eda2134259dd7d4f0f2508cb7cc8620ce42c91afbe8348acb70d60f4e58", func := "sastrugi/sastrugilaw05.BuildChecks", spec := "buildChecks", unfollowed := true, recurses := true, apart := false, narrowed := true }
def BuildChecksUptoSaid : Prop := buildChecksUptoRow.holds Try.pinned (OpenSpec.upto buildChecksSpec)

/-- 'sastrugilaw05.BuildCauses', WHERE WHAT IT READS IS OF BULK AT MOST 1048576: true; the input reads as it did. -/
def buildCausesUptoRow : OpenClaim := { program := "ytokelpmngahnoaa", sum := "86f32eda2134259dd7d4f0f2508cb7cc8620ce42c91afbe8348acb70d60f4e58", func := "sastrugi/sastrugilaw05.BuildCauses", spec := "buildCauses", unfollowed := true, recurses := true, apart := false, narrowed := true }
def BuildCausesUptoSaid : Prop := buildCausesUptoRow.holds Try.pinned (OpenSpec.upto buildCausesSpec)

/-- 'sastrugilaw05.BuildIdle', WHERE WHAT IT READS IS OF BULK AT MOST 1048576: true; the input reads as it did. -/
def buildIdleUptoRow : OpenClaim := { program := "ytokelpmngahnoaa", sum := "86f32eda2134259dd7d4f0f2508cb7cc8620ce42c91afbe8348acb70d60f4e58", func := "sastrugi/sastrugilaw05.BuildIdle", spec := "buildIdle", unfollowed := true, recurses := true, apart := false, narrowed := true }
def BuildIdleUptoSaid : Prop := buildIdleUptoRow.holds Try.pinned (OpenSpec.upto buildIdleSpec)

/-- 'sastrugilaw05.BuildOrders', WHERE WHAT IT READS IS OF BULK AT MOST 1048576: true; the input reads as it did. -/
def buildOrdersUptoRow : OpenClaim := { program := "ytokelpmngahnoaa", sum := "86f32eda2134259dd7d4f0f2508cb7cc8620ce42c91afbe8348acb70d60f4e58", func := "sastrugi/sastrugilaw05.BuildOrders", spec := "buildOrders", unfollowed := true, recurses := true, apart := false, narrowed := true }
def BuildOrdersUptoSaid : Prop := buildOrdersUptoRow.holds Try.pinned (OpenSpec.upto buildOrdersSpec)

/-- 'sastrugilaw05.BuildFirst', WHERE WHAT IT READS IS OF BULK AT MOST 1048576: true; the input reads as it did. -/
def buildFirstUptoRow : OpenClaim := { program := "ytokelpmngahnoaa", sum := "86f32eda2134259dd7d4f0f2508cb7cc8620ce42c91afbe8348acb70d60f4e58", func := "sastrugi/sastrugilaw05.BuildFirst", spec := "buildFirst", unfollowed := true, recurses := true, apart := false, narrowed := true }
def BuildFirstUptoSaid : Prop := buildFirstUptoRow.holds Try.pinned (OpenSpec.upto buildFirstSpec)

/-- 'sastrugilaw05.BuildChains', WHERE WHAT IT READS IS OF BULK AT MOST 1048576: true; the input reads as it did. -/
def buildChainsUptoRow : OpenClaim := { program := "ytokelpmngahnoaa", sum := "86f32eda2134259dd7d4f0f2508cb7cc8620ce42c91afbe8348acb70d60f4e58", func := "sastrugi/sastrugilaw05.BuildChains", spec := "buildChains", unfollowed := true, recurses := true, apart := false, narrowed := true }
def BuildChainsUptoSaid : Prop := buildChainsUptoRow.holds Try.pinned (OpenSpec.upto buildChainsSpec)

end Rows
end Go.Proofs.Ytokelpmngahnoaa
