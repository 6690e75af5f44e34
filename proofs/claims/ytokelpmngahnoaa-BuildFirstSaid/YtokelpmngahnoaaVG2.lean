/- build: what holds the road up. -/
import Derived.Test.YtokelpmngahnoaaVJ10
import Derived.Test.YtokelpmngahnoaaVG1
import Derived.Test.YtokelpmngahnoaaVKC
set_option linter.unusedVariables false
set_option linter.unusedSimpArgs false
set_option linter.unnecessarySimpa false
namespace Go.Proofs.Ytokelpmngahnoaa
open Go.RowKit
set_option maxRecDepth 100000
attribute [local go_sem] Oper.semAt_some
attribute [local go_sem] run_store_fn
theorem Bun.slY {α : Type} {enc : α -> List Value} {sz lo hi : Nat} {v : Value} {l : List α} {w0 A : World} {L : List Res} (i : Nat) (h : Bun w0 L A) (hi_ : L[i]? = some (rsl enc sz lo hi v l)) : Sl enc sz 0 A.heap.size A v l := by
 have hP : Sl enc sz lo hi A v l := h.at i hi_
 have hb := fun g hx => (h.ltAt i hi_ g hx).1
 obtain ⟨hm, a, c, hv, h2⟩ := hP
 refine ⟨hm, a, c, hv, ?_⟩
 rcases h2 with h2 | ⟨b, off, ha, h3, h4, h5⟩
 · exact .inl h2
 · exact .inr ⟨b, off, ha, Nat.zero_le _, hb b ⟨h3, h4⟩, h5⟩
def ints (r : List Nat) : List Int := r.map fun (x : Nat) => (x : Int)
theorem ints_len (r : List Nat) : (ints r).length = r.length := by simp [ints]
end Go.Proofs.Ytokelpmngahnoaa
