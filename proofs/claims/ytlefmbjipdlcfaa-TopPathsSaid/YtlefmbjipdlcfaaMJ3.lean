/- build and its reference: what is wrong with tasks, jobs and days. -/
import Derived.Test.YtlefmbjipdlcfaaMJ2
set_option linter.unusedVariables false
set_option linter.unusedSimpArgs false
set_option linter.unnecessarySimpa false
namespace Go.Proofs.Ytlefmbjipdlcfaa
open Go.RowKit
set_option maxRecDepth 100000
structure WeaOk (d : Wea) : Prop where
 cold : -1000 <= d.cold.lo /\ d.cold.lo <= d.cold.hi /\ d.cold.hi <= 1000
 fall : 0 <= d.fall.lo /\ d.fall.lo <= d.fall.hi /\ d.fall.hi <= 1000
 water : 0 <= d.water /\ d.water <= 200
theorem weaOk {d : Wea} (h : weaErr d = 0) : WeaOk d := by
 unfold weaErr at h
 split at h
 · contradiction
 rename_i h1
 split at h
 · contradiction
 rename_i h2
 split at h
 · cases h
 · exact ⟨spanErr_ok (Classical.not_not.1 h1), spanErr_ok (Classical.not_not.1 h2), by omega⟩
theorem take_snoc {α : Type} {l : List α} {k : Nat} {z : α} (h : l[k]? = some z) : l.take k ++ [z] = l.take (k + 1) := by
 obtain ⟨hk, rfl⟩ := List.getElem?_eq_some_iff.1 h
 rw [List.take_succ_eq_append_getElem hk]
end Go.Proofs.Ytlefmbjipdlcfaa
