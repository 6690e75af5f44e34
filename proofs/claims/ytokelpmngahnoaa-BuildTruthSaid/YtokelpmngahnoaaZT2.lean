/- build and its reference: the reference's plan. -/
import Derived.Test.YtokelpmngahnoaaZT1
import Derived.Test.YtokelpmngahnoaaZKB
import Derived.Test.YtokelpmngahnoaaZKC
set_option linter.unusedVariables false
set_option linter.unusedSimpArgs false
set_option linter.unnecessarySimpa false
namespace Go.Proofs.Ytokelpmngahnoaa
open Go.RowKit
set_option maxRecDepth 100000
attribute [local go_sem] Oper.semAt_some
/-- Rows of truth values, read from lo below hi. -/
def Rwsl (lo hi : Nat) (w : World) (l : List (Value × List Bool)) : Prop := ∀ r ∈ l, Sl boEnc 1 lo hi w r.1 r.2
def rrwsl (lo hi : Nat) (l : List (Value × List Bool)) : Res := ⟨false, fun x => lo ≤ x ∧ x < hi, fun w => Rwsl lo hi w l, fun _ _ _ hg hr h r hrr => Sl.gb (h r hrr) hg (fun g e => by have := hr g e; omega)⟩
/-- A case, as it lies in memory. -/
structure CaseAt (lo hi : Nat) (w : World) (vh vw vf vk : Value) (lh lw lf : List Int) (rows : List (Value × List Bool)) : Prop where
  h : Sl intEnc 1 lo hi w vh lh
  w_ : Sl intEnc 1 lo hi w vw lw
  f : Sl intEnc 1 lo hi w vf lf
  k : Sl vEncS 1 lo hi w vk (rows.map (·.1))
  r : Rwsl lo hi w rows
theorem caseAt_own {b : Nat} {w : World} {vh vw vf vk : Value} {lh lw lf : List Int} {rows : List (Value × List Bool)} (h1 : Own intEnc 3 1 b w vh lh) (h2 : Own intEnc 3 1 b w vw lw) (h3 : Own intEnc 3 1 b w vf lf) (h4 : Own vEncS 56 1 b w vk (rows.map (·.1))) (h5 : ∀ t ∈ rows, Own boEnc 4 1 b w t.1 t.2) : CaseAt 0 w.heap.size w vh vw vf vk lh lw lf rows :=
  ⟨(Own.sl h1 (fun _ => rfl)).wide (Nat.zero_le _) (Nat.le_refl _), (Own.sl h2 (fun _ => rfl)).wide (Nat.zero_le _) (Nat.le_refl _), (Own.sl h3 (fun _ => rfl)).wide (Nat.zero_le _) (Nat.le_refl _), (Own.sl h4 (fun _ => rfl)).wide (Nat.zero_le _) (Nat.le_refl _), fun r hr => (Own.sl (h5 r hr) (fun _ => rfl)).wide (Nat.zero_le _) (Nat.le_refl _)⟩
theorem rng_at {f : Nat → Int} {l : List Int} {n k : Nat} (h : l = (List.range n).map f) (hk : k < n) : l[k]? = some (f k) := by subst h; simp [hk]
end Go.Proofs.Ytokelpmngahnoaa
