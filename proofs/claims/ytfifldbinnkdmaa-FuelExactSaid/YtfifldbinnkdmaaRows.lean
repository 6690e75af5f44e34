/-
  No cell of these rows narrows 'for every input' (looked for: loops, veiled, ifaces, maps, wideKeys, modest, calm, conditions, laid).
  DERIVED. THE GIVEN ROWS OF THIS SEAT. 11 by the template 'for every input the law returns true; each argument reads behind the call as it read before'; 0 by the template 'total and deterministic' (their statements: YtfifldbinnkdmaaTotals.lean).
  GIVEN WITH THE SEED: the statements are not yours to turn. If you find one false, say at which input.
  Laid BY PROGRAM, IN A SANDBOX (cutbox-rows.mjs): the forced cells as the released guide's own fill.sh prints them over the translation 492434877c5a3348… (all of the seat's roots in one cut). By AI agents, Wed Nov 11 2026. No macro, syntax, notation, axiom, sorry.
-/
import Derived.Test.YtfifldbinnkdmaaChecked
import GoSem.Claim
import GoSem.ClaimJoined
import GoSem.ClaimMapViews
import Derived.JoinedTies
import Derived.KernelRfl
namespace Go.Proofs.Ytfifldbinnkdmaa
/- THE CELL 'sum', in the pinned program and in every row, IS THE sha256 OF THE DUMP (.gsa) THAT YtfifldbinnkdmaaProg.lean LOADS. Nothing in Lean hashes anything: it is a label: what it is worth is what the hold of that sum in a sandbox is worth. -/
noncomputable def Try.pinned : Pinned := { name := "ytfifldbinnkdmaa", sum := "492434877c5a3348e15f55627ddca04eb5475fe3c7e0984ee811ecbbca58a4f7", checked := Try.checked }
namespace Rows
def none {H : Type} : Left H := { results := [], args := [] }

/-- 'sastrugilaw06.FuelLosses': WHATEVER THE INPUT: true; the input reads as it did. -/
def fuelLossesSpec : ChangeSpec := { name := "fuelLosses", fn := fun _ => fun
  | [d1, d2] => { results := [.lit (.bool true)], args := [d1, d2] }
  | _ => none }
def fuelLossesRow : OpenClaim := { program := "ytfifldbinnkdmaa", sum := "492434877c5a3348e15f55627ddca04eb5475fe3c7e0984ee811ecbbca58a4f7", func := "sastrugi/sastrugilaw06.FuelLosses", spec := "fuelLosses", unfollowed := true, recurses := true, apart := false }
def FuelLossesSaid : Prop := fuelLossesRow.holds Try.pinned (OpenSpec.ofChange fuelLossesSpec)

/-- ITS FALSE NEIGHBOUR: 'it returns false'. Refute it at one input. -/
def fuelLossesWrong : ChangeSpec := { name := "fuelLosses", fn := fun _ => fun
  | [d1, d2] => { results := [.lit (.bool false)], args := [d1, d2] }
  | _ => none }
def FuelLossesWrongFalsely : Prop := fuelLossesRow.holds Try.pinned (OpenSpec.ofChange fuelLossesWrong)

/-- 'sastrugilaw06.FuelTanks': WHATEVER THE INPUT: true; the input reads as it did. -/
def fuelTanksSpec : ChangeSpec := { name := "fuelTanks", fn := fun _ => fun
  | [d1, d2, d3, d4, d5, d6] => { results := [.lit (.bool true)], args := [d1, d2, d3, d4, d5, d6] }
  | _ => none }
def fuelTanksRow : OpenClaim := { program := "ytfifldbinnkdmaa", sum := "492434877c5a3348e15f55627ddca04eb5475fe3c7e0984ee811ecbbca58a4f7", func := "sastrugi/sastrugilaw06.FuelTanks", spec := "fuelTanks", unfollowed := true, recurses := true, apart := false }
def FuelTanksSaid : Prop := fuelTanksRow.holds Try.pinned (OpenSpec.ofChange fuelTanksSpec)

/-- ITS FALSE NEIGHBOUR: 'it returns false'. Refute it at one input. -/
def fuelTanksWrong : ChangeSpec := { name := "fuelTanks", fn := fun _ => fun
  | [d1, d2, d3, d4, d5, d6] => { results := [.lit (.bool false)], args := [d1, d2, d3, d4, d5, d6] }
  | _ => none }
def FuelTanksWrongFalsely : Prop := fuelTanksRow.holds Try.pinned (OpenSpec.ofChange fuelTanksWrong)

/-- 'sastrugilaw06.FuelDips': WHATEVER THE INPUT: true; the input reads as it did. -/
def fuelDipsSpec : ChangeSpec := { name := "fuelDips", fn := fun _ => fun
  | [d] => { results := [.lit (.bool true)], args := [d] }
  | _ => none }
def fuelDipsRow : OpenClaim := { program := "ytfifldbinnkdmaa", sum := "492434877c5a3348e15f55627ddca04eb5475fe3c7e0984ee811ecbbca58a4f7", func := "sastrugi/sastrugilaw06.FuelDips", spec := "fuelDips", unfollowed := true, recurses := true, apart := false }
def FuelDipsSaid : Prop := fuelDipsRow.holds Try.pinned (OpenSpec.ofChange fuelDipsSpec)

/-- ITS FALSE NEIGHBOUR: 'it returns false'. Refute it at one input. -/
def fuelDipsWrong : ChangeSpec := { name := "fuelDips", fn := fun _ => fun
  | [d] => { results := [.lit (.bool false)], args := [d] }
  | _ => none }
def FuelDipsWrongFalsely : Prop := fuelDipsRow.holds Try.pinned (OpenSpec.ofChange fuelDipsWrong)

/-- 'sastrugilaw06.FuelChecks': WHATEVER THE INPUT: true; the input reads as it did. -/
def fuelChecksSpec : ChangeSpec := { name := "fuelChecks", fn := fun _ => fun
  | [d1, d2, d3] => { results := [.lit (.bool true)], args := [d1, d2, d3] }
  | _ => none }
def fuelChecksRow : OpenClaim := { program := "ytfifldbinnkdmaa", sum := "492434877c5a3348e15f55627ddca04eb5475fe3c7e0984ee811ecbbca58a4f7", func := "sastrugi/sastrugilaw06.FuelChecks", spec := "fuelChecks", unfollowed := true, recurses := true, apart := false }
def FuelChecksSaid : Prop := fuelChecksRow.holds Try.pinned (OpenSpec.ofChange fuelChecksSpec)

/-- ITS FALSE NEIGHBOUR: 'it returns false'. Refute it at one input. -/
def fuelChecksWrong : ChangeSpec := { name := "fuelChecks", fn := fun _ => fun
  | [d1, d2, d3] => { results := [.lit (.bool false)], args := [d1, d2, d3] }
  | _ => none }
def FuelChecksWrongFalsely : Prop := fuelChecksRow.holds Try.pinned (OpenSpec.ofChange fuelChecksWrong)

/-- 'sastrugilaw06.FuelNarrows': WHATEVER THE INPUT: true; the input reads as it did. -/
def fuelNarrowsSpec : ChangeSpec := { name := "fuelNarrows", fn := fun _ => fun
  | [d] => { results := [.lit (.bool true)], args := [d] }
  | _ => none }
def fuelNarrowsRow : OpenClaim := { program := "ytfifldbinnkdmaa", sum := "492434877c5a3348e15f55627ddca04eb5475fe3c7e0984ee811ecbbca58a4f7", func := "sastrugi/sastrugilaw06.FuelNarrows", spec := "fuelNarrows", unfollowed := true, recurses := true, apart := false }
def FuelNarrowsSaid : Prop := fuelNarrowsRow.holds Try.pinned (OpenSpec.ofChange fuelNarrowsSpec)

/-- ITS FALSE NEIGHBOUR: 'it returns false'. Refute it at one input. -/
def fuelNarrowsWrong : ChangeSpec := { name := "fuelNarrows", fn := fun _ => fun
  | [d] => { results := [.lit (.bool false)], args := [d] }
  | _ => none }
def FuelNarrowsWrongFalsely : Prop := fuelNarrowsRow.holds Try.pinned (OpenSpec.ofChange fuelNarrowsWrong)

/-- 'sastrugilaw06.FuelExact': WHATEVER THE INPUT: true; the input reads as it did. -/
def fuelExactSpec : ChangeSpec := { name := "fuelExact", fn := fun _ => fun
  | [d] => { results := [.lit (.bool true)], args := [d] }
  | _ => none }
def fuelExactRow : OpenClaim := { program := "ytfifldbinnkdmaa", sum := "492434877c5a3348e15f55627ddca04eb5475fe3c7e0984ee811ecbbca58a4f7", func := "sastrugi/sastrugilaw06.FuelExact", spec := "fuelExact", unfollowed := true, recurses := true, apart := false }
def FuelExactSaid : Prop := fuelExactRow.holds Try.pinned (OpenSpec.ofChange fuelExactSpec)

/-- ITS FALSE NEIGHBOUR: 'it returns false'. Refute it at one input. -/
def fuelExactWrong : ChangeSpec := { name := "fuelExact", fn := fun _ => fun
  | [d] => { results := [.lit (.bool false)], args := [d] }
  | _ => none }
def FuelExactWrongFalsely : Prop := fuelExactRow.holds Try.pinned (OpenSpec.ofChange fuelExactWrong)

/-- 'sastrugilaw06.FuelRefined': WHATEVER THE INPUT: true; the input reads as it did. -/
def fuelRefinedSpec : ChangeSpec := { name := "fuelRefined", fn := fun _ => fun
  | [d] => { results := [.lit (.bool true)], args := [d] }
  | _ => none }
def fuelRefinedRow : OpenClaim := { program := "ytfifldbinnkdmaa", sum := "492434877c5a3348e15f55627ddca04eb5475fe3c7e0984ee811ecbbca58a4f7", func := "sastrugi/sastrugilaw06.FuelRefined", spec := "fuelRefined", unfollowed := true, recurses := true, apart := false }
def FuelRefinedSaid : Prop := fuelRefinedRow.holds Try.pinned (OpenSpec.ofChange fuelRefinedSpec)

/-- ITS FALSE NEIGHBOUR: 'it returns false'. Refute it at one input. -/
def fuelRefinedWrong : ChangeSpec := { name := "fuelRefined", fn := fun _ => fun
  | [d] => { results := [.lit (.bool false)], args := [d] }
  | _ => none }
def FuelRefinedWrongFalsely : Prop := fuelRefinedRow.holds Try.pinned (OpenSpec.ofChange fuelRefinedWrong)

/-- 'sastrugilaw06.FuelHeats': WHATEVER THE INPUT: true; the input reads as it did. -/
def fuelHeatsSpec : ChangeSpec := { name := "fuelHeats", fn := fun _ => fun
  | [d1, d2, d3, d4] => { results := [.lit (.bool true)], args := [d1, d2, d3, d4] }
  | _ => none }
def fuelHeatsRow : OpenClaim := { program := "ytfifldbinnkdmaa", sum := "492434877c5a3348e15f55627ddca04eb5475fe3c7e0984ee811ecbbca58a4f7", func := "sastrugi/sastrugilaw06.FuelHeats", spec := "fuelHeats", unfollowed := true, recurses := true, apart := false }
def FuelHeatsSaid : Prop := fuelHeatsRow.holds Try.pinned (OpenSpec.ofChange fuelHeatsSpec)

/-- ITS FALSE NEIGHBOUR: 'it returns false'. Refute it at one input. -/
def fuelHeatsWrong : ChangeSpec := { name := "fuelHeats", fn := fun _ => fun
  | [d1, d2, d3, d4] => { results := [.lit (.bool false)], args := [d1, d2, d3, d4] }
  | _ => none }
def FuelHeatsWrongFalsely : Prop := fuelHeatsRow.holds Try.pinned (OpenSpec.ofChange fuelHeatsWrong)

/-- 'sastrugilaw06.FuelDays': WHATEVER THE INPUT: true; the input reads as it did. -/
def fuelDaysSpec : ChangeSpec := { name := "fuelDays", fn := fun _ => fun
  | [d] => { results := [.lit (.bool true)], args := [d] }
  | _ => none }
def fuelDaysRow : OpenClaim := { program := "ytfifldbinnkdmaa", sum := "492434877c5a3348e15f55627ddca04eb5475fe3c7e0984ee811ecbbca58a4f7", func := "sastrugi/sastrugilaw06.FuelDays", spec := "fuelDays", unfollowed := true, recurses := true, apart := false }
def FuelDaysSaid : Prop := fuelDaysRow.holds Try.pinned (OpenSpec.ofChange fuelDaysSpec)

/-- ITS FALSE NEIGHBOUR: 'it returns false'. Refute it at one input. -/
def fuelDaysWrong : ChangeSpec := { name := "fuelDays", fn := fun _ => fun
  | [d] => { results := [.lit (.bool false)], args := [d] }
  | _ => none }
def FuelDaysWrongFalsely : Prop := fuelDaysRow.holds Try.pinned (OpenSpec.ofChange fuelDaysWrong)

/-- 'sastrugilaw06.FuelRefines': WHATEVER THE INPUT: true; the input reads as it did. -/
def fuelRefinesSpec : ChangeSpec := { name := "fuelRefines", fn := fun _ => fun
  | [d1, d2, d3] => { results := [.lit (.bool true)], args := [d1, d2, d3] }
  | _ => none }
def fuelRefinesRow : OpenClaim := { program := "ytfifldbinnkdmaa", sum := "492434877c5a3348e15f55627ddca04eb5475fe3c7e0984ee811ecbbca58a4f7", func := "sastrugi/sastrugilaw06.FuelRefines", spec := "fuelRefines", unfollowed := true, recurses := true, apart := false }
def FuelRefinesSaid : Prop := fuelRefinesRow.holds Try.pinned (OpenSpec.ofChange fuelRefinesSpec)

/-- ITS FALSE NEIGHBOUR: 'it returns false'. Refute it at one input. -/
def fuelRefinesWrong : ChangeSpec := { name := "fuelRefines", fn := fun _ => fun
  | [d1, d2, d3] => { results := [.lit (.bool false)], args := [d1, d2, d3] }
  | _ => none }
def FuelRefinesWrongFalsely : Prop := fuelRefinesRow.holds Try.pinned (OpenSpec.ofChange fuelRefinesWrong)

/-- 'sastrugilaw06.FuelTruth': WHATEVER THE INPUT: true; the input reads as it did. -/
def fuelTruthSpec : ChangeSpec := { name := "fuelTruth", fn := fun _ => fun
  | [d] => { results := [.lit (.bool true)], args := [d] }
  | _ => none }
def fuelTruthRow : OpenClaim := { program := "ytfifldbinnkdmaa", sum := "492434877c5a3348e15f55627ddca04eb5475fe3c7e0984ee811ecbbca58a4f7", func := "sastrugi/sastrugilaw06.FuelTruth", spec := "fuelTruth", unfollowed := true, recurses := true, apart := false }
def FuelTruthSaid : Prop := fuelTruthRow.holds Try.pinned (OpenSpec.ofChange fuelTruthSpec)

/-- ITS FALSE NEIGHBOUR: 'it returns false'. Refute it at one input. -/
def fuelTruthWrong : ChangeSpec := { name := "fuelTruth", fn := fun _ => fun
  | [d] => { results := [.lit (.bool false)], args := [d] }
  | _ => none }
def FuelTruthWrongFalsely : Prop := fuelTruthRow.holds Try.pinned (OpenSpec.ofChange fuelTruthWrong)

/- THE SECOND FORM. 'bulk': how many values and letters a reading holds, each counted each time it is reached (what is shared counts as often as it is met; a slice's spare places count too). A statement '..UptoSaid' is the law's where the arguments, and the package variables that the reading takes, are together of bulk at most 1048576: NARROWER than '..Said'. Prove '..Said' where nothing that the law and all that it calls make is longer than what came in: it says more and counts as full. Else prove '..UptoSaid'. A law counts once. -/
mutual
def uptoBulk {H : Type} : DataW H → Nat
  | .lit (.string bytes) => bytes.length + 1
  | .lit _ => 1
  | .nil => 1
  | .ptr d => uptoBulk d + 1
  | .slice elems spare => uptoBulkAll elems + uptoBulkAll spare + 1
  | .agg parts => uptoBulkAll parts + 1
  | .iface _ d => uptoBulk d + 1
  | .map entries => uptoBulkEntries entries + 1
  | .held _ => 1
def uptoBulkAll {H : Type} : List (DataW H) → Nat
  | [] => 0
  | d :: r => uptoBulk d + uptoBulkAll r
def uptoBulkEntries {H : Type} : List (Lit × DataW H) → Nat
  | [] => 0
  | x :: r => uptoBulkEntry x + uptoBulkEntries r
def uptoBulkEntry {H : Type} : Lit × DataW H → Nat
  | (.string bytes, d) => bytes.length + uptoBulk d + 1
  | (_, d) => uptoBulk d + 1
 end
def uptoSmall : (H : Type) → List (DataW H) → Bool := fun _ ds => decide (uptoBulkAll ds ≤ 1048576)
def OpenSpec.upto (s : _root_.Go.ChangeSpec) : _root_.Go.OpenSpec := { _root_.Go.OpenSpec.ofChange s with cond := some uptoSmall }

/-- 'sastrugilaw06.FuelLosses', WHERE WHAT IT READS IS OF BULK AT MOST 1048576: true; the input reads as it did. -/
def fuelLossesUptoRow : OpenClaim := { program := "ytfifldbinnkdmaa", sum := "492434877c5a3348e15f55627ddca04eb5475fe3c7e0984ee811ecbbca58a4f7", func := "sastrugi/sastrugilaw06.FuelLosses", spec := "fuelLosses", unfollowed := true, recurses := true, apart := false, narrowed := true }
def FuelLossesUptoSaid : Prop := fuelLossesUptoRow.holds Try.pinned (OpenSpec.upto fuelLossesSpec)

/-- 'sastrugilaw06.FuelTanks', WHERE WHAT IT READS IS OF BULK AT MOST 1048576: true; the input reads as it did. -/
def fuelTanksUptoRow : OpenClaim := { program := "ytfifldbinnkdmaa", sum := "492434877c5a3348e15f55627ddca04eb5475fe3c7e0984ee811ecbbca58a4f7", func := "sastrugi/sastrugilaw06.FuelTanks", spec := "fuelTanks", unfollowed := true, recurses := true, apart := false, narrowed := true }
def FuelTanksUptoSaid : Prop := fuelTanksUptoRow.holds Try.pinned (OpenSpec.upto fuelTanksSpec)

/-- 'sastrugilaw06.FuelDips', WHERE WHAT IT READS IS OF BULK AT MOST 1048576: true; the input reads as it did. -/
def fuelDipsUptoRow : OpenClaim := { program := "ytfifldbinnkdmaa", sum := "492434877c5a3348e15f55627ddca04eb5475fe3c7e0984ee811ecbbca58a4f7", func := "sastrugi/sastrugilaw06.FuelDips", spec := "fuelDips", unfollowed := true, recurses := true, apart := false, narrowed := true }
def FuelDipsUptoSaid : Prop := fuelDipsUptoRow.holds Try.pinned (OpenSpec.upto fuelDipsSpec)

/-- 'sastrugilaw06.FuelChecks', WHERE WHAT IT READS IS OF BULK AT MOST 1048576: true; the input reads as it did. -/
def fuelChecksUptoRow : OpenClaim := { program := "ytfifldbinnkdmaa", sum := "492434877c5a3348e15f55627ddca04eb5475fe3c7e0984ee811ecbbca58a4f7", func := "sastrugi/sastrugilaw06.FuelChecks", spec := "fuelChecks", unfollowed := true, recurses := true, apart := false, narrowed := true }
def FuelChecksUptoSaid : Prop := fuelChecksUptoRow.holds Try.pinned (OpenSpec.upto fuelChecksSpec)

/-- 'sastrugilaw06.FuelNarrows', WHERE WHAT IT READS IS OF BULK AT MOST 1048576: true; the input reads as it did. -/
def fuelNarrowsUptoRow : OpenClaim := { program := "ytfifldbinnkdmaa", sum := "492434877c5a3348e15f55627ddca04eb5475fe3c7e0984ee811ecbbca58a4f7", func := "sastrugi/sastrugilaw06.FuelNarrows", spec := "fuelNarrows", unfollowed := true, recurses := true, apart := false, narrowed := true }
def FuelNarrowsUptoSaid : Prop := fuelNarrowsUptoRow.holds Try.pinned (OpenSpec.upto fuelNarrowsSpec)

/-- 'sastrugilaw06.FuelExact', WHERE WHAT IT READS IS OF BULK AT MOST 1048576: true; the input reads as it did. -/
def fuelExactUptoRow : OpenClaim := { program := "ytfifldbinnkdmaa", sum := "492434877c5a3348e15f55627ddca04eb5475fe3c7e0984ee811ecbbca58a4f7", func := "sastrugi/sastrugilaw06.FuelExact", spec := "fuelExact", unfollowed := true, recurses := true, apart := false, narrowed := true }
def FuelExactUptoSaid : Prop := fuelExactUptoRow.holds Try.pinned (OpenSpec.upto fuelExactSpec)

/-- 'sastrugilaw06.FuelRefined', WHERE WHAT IT READS IS OF BULK AT MOST 1048576: true; the input reads as it did. -/
def fuelRefinedUptoRow : OpenClaim := { program := "ytfifldbinnkdmaa", sum := "492434877c5a3348e15f55627ddca04eb5475fe3c7e0984ee811ecbbca58a4f7", func := "sastrugi/sastrugilaw06.FuelRefined", spec := "fuelRefined", unfollowed := true, recurses := true, apart := false, narrowed := true }
def FuelRefinedUptoSaid : Prop := fuelRefinedUptoRow.holds Try.pinned (OpenSpec.upto fuelRefinedSpec)

/-- 'sastrugilaw06.FuelHeats', WHERE WHAT IT READS IS OF BULK AT MOST 1048576: true; the input reads as it did. -/
def fuelHeatsUptoRow : OpenClaim := { program := "ytfifldbinnkdmaa", sum := "492434877c5a3348e15f55627ddca04eb5475fe3c7e0984ee811ecbbca58a4f7", func := "sastrugi/sastrugilaw06.FuelHeats", spec := "fuelHeats", unfollowed := true, recurses := true, apart := false, narrowed := true }
def FuelHeatsUptoSaid : Prop := fuelHeatsUptoRow.holds Try.pinned (OpenSpec.upto fuelHeatsSpec)

/-- 'sastrugilaw06.FuelDays', WHERE WHAT IT READS IS OF BULK AT MOST 1048576: true; the input reads as it did. -/
def fuelDaysUptoRow : OpenClaim := { program := "ytfifldbinnkdmaa", sum := "492434877c5a3348e15f55627ddca04eb5475fe3c7e0984ee811ecbbca58a4f7", func := "sastrugi/sastrugilaw06.FuelDays", spec := "fuelDays", unfollowed := true, recurses := true, apart := false, narrowed := true }
def FuelDaysUptoSaid : Prop := fuelDaysUptoRow.holds Try.pinned (OpenSpec.upto fuelDaysSpec)

/-- 'sastrugilaw06.FuelRefines', WHERE WHAT IT READS IS OF BULK AT MOST 1048576: true; the input reads as it did. -/
def fuelRefinesUptoRow : OpenClaim := { program := "ytfifldbinnkdmaa", sum := "492434877c5a3348e15f55627ddca04eb5475fe3c7e0984ee811ecbbca58a4f7", func := "sastrugi/sastrugilaw06.FuelRefines", spec := "fuelRefines", unfollowed := true, recurses := true, apart := false, narrowed := true }
def FuelRefinesUptoSaid : Prop := fuelRefinesUptoRow.holds Try.pinned (OpenSpec.upto fuelRefinesSpec)

/-- 'sastrugilaw06.FuelTruth', WHERE WHAT IT READS IS OF BULK AT MOST 1048576: true; the input reads as it did. -/
def fuelTruthUptoRow : OpenClaim := { program := "ytfifldbinnkdmaa", sum := "492434877c5a3348e15f55627ddca04eb5475fe3c7e0984ee811ecbbca58a4f7", func := "sastrugi/sastrugilaw06.FuelTruth", spec := "fuelTruth", unfollowed := true, recurses := true, apart := false, narrowed := true }
def FuelTruthUptoSaid : Prop := fuelTruthUptoRow.holds Try.pinned (OpenSpec.upto fuelTruthSpec)

end Rows
end Go.Proofs.Ytfifldbinnkdmaa
