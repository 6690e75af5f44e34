/- A call that turns the seed leaves what is in hand in its order. -/
import Derived.Test.YthblaiefalbomaaMix
set_option linter.unusedVariables false
set_option linter.unusedSimpArgs false
set_option linter.unnecessarySimpa false
namespace Go.Proofs.Ythblaiefalbomaa
open Go.RowKit
section
variable {w0 A B : World} {L : List Res} {sd : Nat}
theorem Bun.seedAt (i : Nat) {s : Nat} (h : Bun w0 L A) (hi : L[i]? = some (rseed s)) (hg : A.grownBy B (some s)) (hs : SeedAt B s) : Bun w0 L B := by
  have hp := perm_front L i _ hi
  exact ((h.perm hp).seed hg hs).perm hp.symm
theorem Bus.seedAt (i : Nat) {s : Nat} (h : Bus w0 sd L A) (hi : L[i]? = some (rseed s)) (hg : A.grownBy B (some s)) (hs : SeedAt B s) : Bus w0 sd L B := by
  have hp := perm_front L i _ hi
  exact ((h.perm hp).seed hg hs).perm hp.symm
end
theorem Sl.cells0 {α : Type} {enc : α → List Value} {sz lo hi n c x : Nat} {w : World} {l : List α} (h : Sl enc sz lo hi w (.slice (some ⟨x, 0, none⟩) n c) l) {i : Nat} {z : α} (hz : l[i]? = some z) :
    ∀ j u, (enc z)[j]? = some u → w.cell? ⟨x, i * sz + j, none⟩ = some u := fun j u hj => by
  have := h.cells hz j u hj
  rwa [show 0 + i * sz + j = i * sz + j by omega] at this
end Go.Proofs.Ythblaiefalbomaa
