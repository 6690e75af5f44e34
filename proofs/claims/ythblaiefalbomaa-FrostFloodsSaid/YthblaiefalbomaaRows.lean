/-
  No cell of these rows narrows 'for every input' (looked for: loops, veiled, ifaces, maps, wideKeys, modest, calm, conditions, laid).
  DERIVED. THE GIVEN ROWS OF THIS SEAT. 10 by the template 'for every input the law returns true; each argument reads behind the call as it read before'; 0 by the template 'total and deterministic' (their statements: YthblaiefalbomaaTotals.lean).
  GIVEN WITH THE SEED: the statements are not yours to turn. If you find one false, say at which input.
  Laid BY PROGRAM, IN A SANDBOX (cutbox-rows.mjs): the forced cells as the released guide's own fill.sh prints them over the translation f4cff7bddbf10600… (all of the seat's roots in one cut). By AI agents, Wed Nov 11 2026. No macro, syntax, notation, axiom, sorry.
-/
import Derived.Test.YthblaiefalbomaaChecked
import GoSem.Claim
import GoSem.ClaimJoined
import GoSem.ClaimMapViews
import Derived.JoinedTies
import Derived.KernelRfl
namespace Go.Proofs.Ythblaiefalbomaa
/- THE CELL 'sum', in the pinned program and in every row, IS THE sha256 OF THE DUMP (.gsa) THAT YthblaiefalbomaaProg.lean LOADS. Nothing in Lean hashes anything: it is a label: what it is worth is what the hold of that sum in a sandbox is worth. -/
noncomputable def Try.pinned : Pinned := { name := "ythblaiefalbomaa", sum := "f4cff7bddbf106007ab2c8afcfa8a85c751a51056d23c49f1dff652522c9e054", checked := Try.checked }
namespace Rows
def none {H : Type} : Left H := { results := [], args := [] }

/-- 'sastrugilaw01.FrostEnds': WHATEVER THE INPUT: true; the input reads as it did. -/
def frostEndsSpec : ChangeSpec := { name := "frostEnds", fn := fun _ => fun
  | [d] => { results := [.lit (.bool true)], args := [d] }
  | _ => none }
def frostEndsRow : OpenClaim := { program := "ythblaiefalbomaa", sum := "f4cff7bddbf106007ab2c8afcfa8a85c751a51056d23c49f1dff652522c9e054", func := "sastrugi/sastrugilaw01.FrostEnds", spec := "frostEnds", unfollowed := true, recurses := true, apart := false }
def FrostEndsSaid : Prop := frostEndsRow.holds Try.pinned (OpenSpec.ofChange frostEndsSpec)

/-- ITS FALSE NEIGHBOUR: 'it returns false'. Refute it at one input. -/
def frostEndsWrong : ChangeSpec := { name := "frostEnds", fn := fun _ => fun
  | [d] => { results := [.lit (.bool false)], args := [d] }
  | _ => none }
def FrostEndsWrongFalsely : Prop := frostEndsRow.holds Try.pinned (OpenSpec.ofChange frostEndsWrong)

/-- 'sastrugilaw01.FrostParts': WHATEVER THE INPUT: true; the input reads as it did. -/
def frostPartsSpec : ChangeSpec := { name := "frostParts", fn := fun _ => fun
  | [d1, d2] => { results := [.lit (.bool true)], args := [d1, d2] }
  | _ => none }
def frostPartsRow : OpenClaim := { program := "ythblaiefalbomaa", sum := "f4cff7bddbf106007ab2c8afcfa8a85c751a51056d23c49f1dff652522c9e054", func := "sastrugi/sastrugilaw01.FrostParts", spec := "frostParts", unfollowed := true, recurses := true, apart := false }
def FrostPartsSaid : Prop := frostPartsRow.holds Try.pinned (OpenSpec.ofChange frostPartsSpec)

/-- ITS FALSE NEIGHBOUR: 'it returns false'. Refute it at one input. -/
def frostPartsWrong : ChangeSpec := { name := "frostParts", fn := fun _ => fun
  | [d1, d2] => { results := [.lit (.bool false)], args := [d1, d2] }
  | _ => none }
def FrostPartsWrongFalsely : Prop := frostPartsRow.holds Try.pinned (OpenSpec.ofChange frostPartsWrong)

/-- 'sastrugilaw01.FrostBears': WHATEVER THE INPUT: true; the input reads as it did. -/
def frostBearsSpec : ChangeSpec := { name := "frostBears", fn := fun _ => fun
  | [d1, d2, d3, d4, d5] => { results := [.lit (.bool true)], args := [d1, d2, d3, d4, d5] }
  | _ => none }
def frostBearsRow : OpenClaim := { program := "ythblaiefalbomaa", sum := "f4cff7bddbf106007ab2c8afcfa8a85c751a51056d23c49f1dff652522c9e054", func := "sastrugi/sastrugilaw01.FrostBears", spec := "frostBears", unfollowed := true, recurses := true, apart := false }
def FrostBearsSaid : Prop := frostBearsRow.holds Try.pinned (OpenSpec.ofChange frostBearsSpec)

/-- ITS FALSE NEIGHBOUR: 'it returns false'. Refute it at one input. -/
def frostBearsWrong : ChangeSpec := { name := "frostBears", fn := fun _ => fun
  | [d1, d2, d3, d4, d5] => { results := [.lit (.bool false)], args := [d1, d2, d3, d4, d5] }
  | _ => none }
def FrostBearsWrongFalsely : Prop := frostBearsRow.holds Try.pinned (OpenSpec.ofChange frostBearsWrong)

/-- 'sastrugilaw01.FrostCores': WHATEVER THE INPUT: true; the input reads as it did. -/
def frostCoresSpec : ChangeSpec := { name := "frostCores", fn := fun _ => fun
  | [d1, d2, d3] => { results := [.lit (.bool true)], args := [d1, d2, d3] }
  | _ => none }
def frostCoresRow : OpenClaim := { program := "ythblaiefalbomaa", sum := "f4cff7bddbf106007ab2c8afcfa8a85c751a51056d23c49f1dff652522c9e054", func := "sastrugi/sastrugilaw01.FrostCores", spec := "frostCores", unfollowed := true, recurses := true, apart := false }
def FrostCoresSaid : Prop := frostCoresRow.holds Try.pinned (OpenSpec.ofChange frostCoresSpec)

/-- ITS FALSE NEIGHBOUR: 'it returns false'. Refute it at one input. -/
def frostCoresWrong : ChangeSpec := { name := "frostCores", fn := fun _ => fun
  | [d1, d2, d3] => { results := [.lit (.bool false)], args := [d1, d2, d3] }
  | _ => none }
def FrostCoresWrongFalsely : Prop := frostCoresRow.holds Try.pinned (OpenSpec.ofChange frostCoresWrong)

/-- 'sastrugilaw01.FrostDrilled': WHATEVER THE INPUT: true; the input reads as it did. -/
def frostDrilledSpec : ChangeSpec := { name := "frostDrilled", fn := fun _ => fun
  | [d] => { results := [.lit (.bool true)], args := [d] }
  | _ => none }
def frostDrilledRow : OpenClaim := { program := "ythblaiefalbomaa", sum := "f4cff7bddbf106007ab2c8afcfa8a85c751a51056d23c49f1dff652522c9e054", func := "sastrugi/sastrugilaw01.FrostDrilled", spec := "frostDrilled", unfollowed := true, recurses := true, apart := false }
def FrostDrilledSaid : Prop := frostDrilledRow.holds Try.pinned (OpenSpec.ofChange frostDrilledSpec)

/-- ITS FALSE NEIGHBOUR: 'it returns false'. Refute it at one input. -/
def frostDrilledWrong : ChangeSpec := { name := "frostDrilled", fn := fun _ => fun
  | [d] => { results := [.lit (.bool false)], args := [d] }
  | _ => none }
def FrostDrilledWrongFalsely : Prop := frostDrilledRow.holds Try.pinned (OpenSpec.ofChange frostDrilledWrong)

/-- 'sastrugilaw01.FrostRuns': WHATEVER THE INPUT: true; the input reads as it did. -/
def frostRunsSpec : ChangeSpec := { name := "frostRuns", fn := fun _ => fun
  | [d1, d2, d3, d4] => { results := [.lit (.bool true)], args := [d1, d2, d3, d4] }
  | _ => none }
def frostRunsRow : OpenClaim := { program := "ythblaiefalbomaa", sum := "f4cff7bddbf106007ab2c8afcfa8a85c751a51056d23c49f1dff652522c9e054", func := "sastrugi/sastrugilaw01.FrostRuns", spec := "frostRuns", unfollowed := true, recurses := true, apart := false }
def FrostRunsSaid : Prop := frostRunsRow.holds Try.pinned (OpenSpec.ofChange frostRunsSpec)

/-- ITS FALSE NEIGHBOUR: 'it returns false'. Refute it at one input. -/
def frostRunsWrong : ChangeSpec := { name := "frostRuns", fn := fun _ => fun
  | [d1, d2, d3, d4] => { results := [.lit (.bool false)], args := [d1, d2, d3, d4] }
  | _ => none }
def FrostRunsWrongFalsely : Prop := frostRunsRow.holds Try.pinned (OpenSpec.ofChange frostRunsWrong)

/-- 'sastrugilaw01.FrostFloods': WHATEVER THE INPUT: true; the input reads as it did. -/
def frostFloodsSpec : ChangeSpec := { name := "frostFloods", fn := fun _ => fun
  | [d1, d2, d3, d4, d5, d6] => { results := [.lit (.bool true)], args := [d1, d2, d3, d4, d5, d6] }
  | _ => none }
def frostFloodsRow : OpenClaim := { program := "ythblaiefalbomaa", sum := "f4cff7bddbf106007ab2c8afcfa8a85c751a51056d23c49f1dff652522c9e054", func := "sastrugi/sastrugilaw01.FrostFloods", spec := "frostFloods", unfollowed := true, recurses := true, apart := false }
def FrostFloodsSaid : Prop := frostFloodsRow.holds Try.pinned (OpenSpec.ofChange frostFloodsSpec)

/-- ITS FALSE NEIGHBOUR: 'it returns false'. Refute it at one input. -/
def frostFloodsWrong : ChangeSpec := { name := "frostFloods", fn := fun _ => fun
  | [d1, d2, d3, d4, d5, d6] => { results := [.lit (.bool false)], args := [d1, d2, d3, d4, d5, d6] }
  | _ => none }
def FrostFloodsWrongFalsely : Prop := frostFloodsRow.holds Try.pinned (OpenSpec.ofChange frostFloodsWrong)

/-- 'sastrugilaw01.FrostTruth': WHATEVER THE INPUT: true; the input reads as it did. -/
def frostTruthSpec : ChangeSpec := { name := "frostTruth", fn := fun _ => fun
  | [d] => { results := [.lit (.bool true)], args := [d] }
  | _ => none }
def frostTruthRow : OpenClaim := { program := "ythblaiefalbomaa", sum := "f4cff7bddbf106007ab2c8afcfa8a85c751a51056d23c49f1dff652522c9e054", func := "sastrugi/sastrugilaw01.FrostTruth", spec := "frostTruth", unfollowed := true, recurses := true, apart := false }
def FrostTruthSaid : Prop := frostTruthRow.holds Try.pinned (OpenSpec.ofChange frostTruthSpec)

/-- ITS FALSE NEIGHBOUR: 'it returns false'. Refute it at one input. -/
def frostTruthWrong : ChangeSpec := { name := "frostTruth", fn := fun _ => fun
  | [d] => { results := [.lit (.bool false)], args := [d] }
  | _ => none }
def FrostTruthWrongFalsely : Prop := frostTruthRow.holds Try.pinned (OpenSpec.ofChange frostTruthWrong)

/-- 'sastrugilaw01.FrostNarrows': WHATEVER THE INPUT: true; the input reads as it did. -/
def frostNarrowsSpec : ChangeSpec := { name := "frostNarrows", fn := fun _ => fun
  | [d] => { results := [.lit (.bool true)], args := [d] }
  | _ => none }
def frostNarrowsRow : OpenClaim := { program := "ythblaiefalbomaa", sum := "f4cff7bddbf106007ab2c8afcfa8a85c751a51056d23c49f1dff652522c9e054", func := "sastrugi/sastrugilaw01.FrostNarrows", spec := "frostNarrows", unfollowed := true, recurses := true, apart := false }
def FrostNarrowsSaid : Prop := frostNarrowsRow.holds Try.pinned (OpenSpec.ofChange frostNarrowsSpec)

/-- ITS FALSE NEIGHBOUR: 'it returns false'. Refute it at one input. -/
def frostNarrowsWrong : ChangeSpec := { name := "frostNarrows", fn := fun _ => fun
  | [d] => { results := [.lit (.bool false)], args := [d] }
  | _ => none }
def FrostNarrowsWrongFalsely : Prop := frostNarrowsRow.holds Try.pinned (OpenSpec.ofChange frostNarrowsWrong)

/-- 'sastrugilaw01.FrostPumps': WHATEVER THE INPUT: true; the input reads as it did. -/
def frostPumpsSpec : ChangeSpec := { name := "frostPumps", fn := fun _ => fun
  | [d] => { results := [.lit (.bool true)], args := [d] }
  | _ => none }
def frostPumpsRow : OpenClaim := { program := "ythblaiefalbomaa", sum := "f4cff7bddbf106007ab2c8afcfa8a85c751a51056d23c49f1dff652522c9e054", func := "sastrugi/sastrugilaw01.FrostPumps", spec := "frostPumps", unfollowed := true, recurses := true, apart := false }
def FrostPumpsSaid : Prop := frostPumpsRow.holds Try.pinned (OpenSpec.ofChange frostPumpsSpec)

/-- ITS FALSE NEIGHBOUR: 'it returns false'. Refute it at one input. -/
def frostPumpsWrong : ChangeSpec := { name := "frostPumps", fn := fun _ => fun
  | [d] => { results := [.lit (.bool false)], args := [d] }
  | _ => none }
def FrostPumpsWrongFalsely : Prop := frostPumpsRow.holds Try.pinned (OpenSpec.ofChange frostPumpsWrong)

/- THE SECOND FORM. 'bulk': how many values and letters a reading holds, each counted each time it is reached (what is shared counts as often as it is met; a slice's spare places count too). A statement '..UptoSaid' is the law's where the arguments, and the package variables that the reading takes, are together of bulk at most 1048576: NARROWER than '..Said'. Prove '..Said' where nothing that the law and all that it calls make is longer than what came in: it says more and counts as full. Else prove '..UptoSaid'. A law counts once. -/
mutual
def uptoBulk {H : Type} : DataW H → Nat
  | .lit (.string bytes) => bytes.length + 1
  | .lit _ => 1
  | .nil => 1
  | .ptr d => uptoBulk d + 1
  | .slice elems spare => uptoBulkAll elems + uptoBulkAll spare + 1
  | .agg parts => uptoBulkAll parts + 1
  | .iface _ d => uptoBulk d + 1
  | .map entries => uptoBulkEntries entries + 1
  | .held _ => 1
def uptoBulkAll {H : Type} : List (DataW H) → Nat
  | [] => 0
  | d :: r => uptoBulk d + uptoBulkAll r
def uptoBulkEntries {H : Type} : List (Lit × DataW H) → Nat
  | [] => 0
  | x :: r => uptoBulkEntry x + uptoBulkEntries r
def uptoBulkEntry {H : Type} : Lit × DataW H → Nat
  | (.string bytes, d) => bytes.length + uptoBulk d + 1
  | (_, d) => uptoBulk d + 1
 end
def uptoSmall : (H : Type) → List (DataW H) → Bool := fun _ ds => decide (uptoBulkAll ds ≤ 1048576)
def OpenSpec.upto (s : _root_.Go.ChangeSpec) : _root_.Go.OpenSpec := { _root_.Go.OpenSpec.ofChange s with cond := some uptoSmall }

/-- 'sastrugilaw01.FrostEnds', WHERE WHAT IT READS IS OF BULK AT MOST 1048576: true; the input reads as it did. -/
def frostEndsUptoRow : OpenClaim := { program := "ythblaiefalbomaa", sum := "f4cff7bddbf106007ab2c8afcfa8a85c751a51056d23c49f1dff652522c9e054", func := "sastrugi/sastrugilaw01.FrostEnds", spec := "frostEnds", unfollowed := true, recurses := true, apart := false, narrowed := true }
def FrostEndsUptoSaid : Prop := frostEndsUptoRow.holds Try.pinned (OpenSpec.upto frostEndsSpec)

/-- 'sastrugilaw01.FrostParts', WHERE WHAT IT READS IS OF BULK AT MOST 1048576: true; the input reads as it did. -/
def frostPartsUptoRow : OpenClaim := { program := "ythblaiefalbomaa", sum := "f4cff7bddbf106007ab2c8afcfa8a85c751a51056d23c49f1dff652522c9e054", func := "sastrugi/sastrugilaw01.FrostParts", spec := "frostParts", unfollowed := true, recurses := true, apart := false, narrowed := true }
def FrostPartsUptoSaid : Prop := frostPartsUptoRow.holds Try.pinned (OpenSpec.upto frostPartsSpec)

/-- 'sastrugilaw01.FrostBears', WHERE WHAT IT READS IS OF BULK AT MOST 1048576: true; the input reads as it did. -/
def frostBearsUptoRow : OpenClaim := { program := "ythblaiefalbomaa", sum := "f4cff7bddbf106007ab2c8afcfa8a85c751a51056d23c49f1dff652522c9e054", func := "sastrugi/sastrugilaw01.FrostBears", spec := "frostBears", unfollowed := true, recurses := true, apart := false, narrowed := true }
def FrostBearsUptoSaid : Prop := frostBearsUptoRow.holds Try.pinned (OpenSpec.upto frostBearsSpec)

/-- 'sastrugilaw01.FrostCores', WHERE WHAT IT READS IS OF BULK AT MOST 1048576: true; the input reads as it did. -/
def frostCoresUptoRow : OpenClaim := { program := "ythblaiefalbomaa", sum := "f4cff7bddbf106007ab2c8afcfa8a85c751a51056d23c49f1dff652522c9e054", func := "sastrugi/sastrugilaw01.FrostCores", spec := "frostCores", unfollowed := true, recurses := true, apart := false, narrowed := true }
def FrostCoresUptoSaid : Prop := frostCoresUptoRow.holds Try.pinned (OpenSpec.upto frostCoresSpec)

/-- 'sastrugilaw01.FrostDrilled', WHERE WHAT IT READS IS OF BULK AT MOST 1048576: true; the input reads as it did. -/
def frostDrilledUptoRow : OpenClaim := { program := "ythblaiefalbomaa", sum := "f4cff7bddbf106007ab2c8afcfa8a85c751a51056d23c49f1dff652522c9e054", func := "sastrugi/sastrugilaw01.FrostDrilled", spec := "frostDrilled", unfollowed := true, recurses := true, apart := false, narrowed := true }
def FrostDrilledUptoSaid : Prop := frostDrilledUptoRow.holds Try.pinned (OpenSpec.upto frostDrilledSpec)

/-- 'sastrugilaw01.FrostRuns', WHERE WHAT IT READS IS OF BULK AT MOST 1048576: true; the input reads as it did. -/
def frostRunsUptoRow : OpenClaim := { program := "ythblaiefalbomaa", sum := "f4cff7bddbf106007ab2c8afcfa8a85c751a51056d23c49f1dff652522c9e054", func := "sastrugi/sastrugilaw01.FrostRuns", spec := "frostRuns", unfollowed := true, recurses := true, apart := false, narrowed := true }
def FrostRunsUptoSaid : Prop := frostRunsUptoRow.holds Try.pinned (OpenSpec.upto frostRunsSpec)

/-- 'sastrugilaw01.FrostFloods', WHERE WHAT IT READS IS OF BULK AT MOST 1048576: true; the input reads as it did. -/
def frostFloodsUptoRow : OpenClaim := { program := "ythblaiefalbomaa", sum := "f4cff7bddbf106007ab2c8afcfa8a85c751a51056d23c49f1dff652522c9e054", func := "sastrugi/sastrugilaw01.FrostFloods", spec := "frostFloods", unfollowed := true, recurses := true, apart := false, narrowed := true }
def FrostFloodsUptoSaid : Prop := frostFloodsUptoRow.holds Try.pinned (OpenSpec.upto frostFloodsSpec)

/-- 'sastrugilaw01.FrostTruth', WHERE WHAT IT READS IS OF BULK AT MOST 1048576: true; the input reads as it did. -/
def frostTruthUptoRow : OpenClaim := { program := "ythblaiefalbomaa", sum := "f4cff7bddbf106007ab2c8afcfa8a85c751a51056d23c49f1dff652522c9e054", func := "sastrugi/sastrugilaw01.FrostTruth", spec := "frostTruth", unfollowed := true, recurses := true, apart := false, narrowed := true }
def FrostTruthUptoSaid : Prop := frostTruthUptoRow.holds Try.pinned (OpenSpec.upto frostTruthSpec)

/-- 'sastrugilaw01.FrostNarrows', WHERE WHAT IT READS IS OF BULK AT MOST 1048576: true; the input reads as it did. -/
def frostNarrowsUptoRow : OpenClaim := { program := "ythblaiefalbomaa", sum := "f4cff7bddbf106007ab2c8afcfa8a85c751a51056d23c49f1dff652522c9e054", func := "sastrugi/sastrugilaw01.FrostNarrows", spec := "frostNarrows", unfollowed := true, recurses := true, apart := false, narrowed := true }
def FrostNarrowsUptoSaid : Prop := frostNarrowsUptoRow.holds Try.pinned (OpenSpec.upto frostNarrowsSpec)

/-- 'sastrugilaw01.FrostPumps', WHERE WHAT IT READS IS OF BULK AT MOST 1048576: true; the input reads as it did. -/
def frostPumpsUptoRow : OpenClaim := { program := "ythblaiefalbomaa", sum := "f4cff7bddbf106007ab2c8afcfa8a85c751a51056d23c49f1dff652522c9e054", func := "sastrugi/sastrugilaw01.FrostPumps", spec := "frostPumps", unfollowed := true, recurses := true, apart := false, narrowed := true }
def FrostPumpsUptoSaid : Prop := frostPumpsUptoRow.holds Try.pinned (OpenSpec.upto frostPumpsSpec)

end Rows
end Go.Proofs.Ythblaiefalbomaa
