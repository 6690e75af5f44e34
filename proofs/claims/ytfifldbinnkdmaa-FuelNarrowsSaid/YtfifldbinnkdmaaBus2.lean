/- A seed beside slices; a row of one's own read as a slice. -/
import Derived.Test.YtfifldbinnkdmaaBus
import Derived.Test.YtfifldbinnkdmaaMem
set_option linter.unusedVariables false
set_option linter.unusedSimpArgs false
set_option linter.unnecessarySimpa false
namespace Go.Proofs.Ytfifldbinnkdmaa
open Go.RowKit

/-- Of the resources only the seed may be written. -/
def OnlyS (sd : Nat) (L : List Res) : Prop := ∀ r ∈ L, r.mine = true → ∀ g, r.X g → g = sd
theorem onlyS_seed (sd : Nat) : OnlyS sd [rseed sd] := fun r hr _ g hx => by
  rw [List.mem_singleton] at hr
  subst hr
  exact hx
theorem onlyS_cons {sd : Nat} {L : List Res} (h : OnlyS sd L) (r : Res) (hr : r.mine = false) : OnlyS sd (r :: L) := fun x hx hm g hg => by
  rcases List.mem_cons.1 hx with rfl | hx
  · rw [hr] at hm; cases hm
  · exact h x hx hm g hg
theorem Bus.sl0 {α : Type} {enc : α → List Value} {sz lo hi sd : Nat} {v : Value} {l : List α} {w0 : World} {L : List Res} (h : Bus w0 sd L w0) (hs : Sl enc sz lo hi w0 v l) (h2 : hi ≤ w0.heap.size) (hx : ¬ (lo ≤ sd ∧ sd < hi)) (hm : OnlyS sd L) : Bus w0 sd (rsl enc sz lo hi v l :: L) w0 := by
  refine ⟨fun r hr => ?_, fun r hr g hg => ?_, ?_, h.gb⟩
  · rcases List.mem_cons.1 hr with rfl | hr
    · exact hs
    · exact h.all r hr
  · rcases List.mem_cons.1 hr with rfl | hr
    · exact ⟨Nat.lt_of_lt_of_le hg.2 h2, fun e => by cases e⟩
    · exact h.bd r hr g hg
  · rw [List.pairwise_cons]
    refine ⟨fun x hx' hmm g hg1 hg2 => ?_, h.dis⟩
    rcases hmm with hmm | hmm
    · cases hmm
    · obtain rfl := hm x hx' hmm g hg2
      exact hx hg1
end Go.Proofs.Ytfifldbinnkdmaa
