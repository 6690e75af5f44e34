/- Spans of a slice by number. -/
import Derived.Test.YtcndphefomigeaaDoorPMem
set_option linter.unusedVariables false
set_option linter.unusedSimpArgs false
set_option linter.unnecessarySimpa false
namespace Go.Proofs.YtcndphefomigeaaDoor
open Go.RowKit

def sp (l : List Sp) (i : Nat) : Sp := l.getD i ⟨0, 0⟩
theorem sp_get {l : List Sp} {i : Nat} (h : i < l.length) : sp l i = l[i] := by simp [sp, h]
theorem Sps.at {lo hi : Nat} {w : World} {v : Value} {l : List Sp} (h : Sps lo hi w v l) (hne : 0 < l.length) : ∃ b off c, v = .slice (some ⟨b, off, none⟩) l.length c ∧ lo ≤ b ∧ b < hi ∧
    ∀ i, i < l.length → w.cell? ⟨b, off + i * 2, none⟩ = some (.int .i64 (sp l i).lo) ∧ w.cell? ⟨b, off + i * 2 + 1, none⟩ = some (.int .i64 (sp l i).hi) := by
  obtain ⟨b, off, c, hv, h1, h2, h3⟩ := Sps.form' h hne
  exact ⟨b, off, c, hv, h1, h2, fun i hi' => by rw [sp_get hi']; exact h3 i hi'⟩
end Go.Proofs.YtcndphefomigeaaDoor
