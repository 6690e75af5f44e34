/- The kit's copies of lists. -/
import Derived.Test.YtfifldbinnkdmaaCopy
set_option linter.unusedVariables false
set_option linter.unusedSimpArgs false
set_option linter.unnecessarySimpa false
namespace Go.Proofs.Ytfifldbinnkdmaa
open Go.RowKit
/-- A copy in blocks of the call's own. -/
def Copy {α : Type} (enc : α → List Value) (sz : Nat) (l : List α) (w : World) (e : Ending) (w' : World) : Prop := ∃ v, e = .returned v ∧ Sl enc sz w.heap.size w'.heap.size w' v l ∧ w.grownBy w' none
theorem own_c (lo hi : Nat) (v : Value) (l : List Int) (w : World) (h : Ints lo hi w v l) (hb : l.length ≤ 100000000000) :
    Calls Try.prog 29 #[v] w (Copy intEnc 1 l w) := by
  obtain ⟨a, c, e⟩ := h.any
  have hv : ∃ a n c, v = .slice a n c := ⟨_, _, _, e⟩
  have H := Lib.hid h
  clear h e
  obtain ⟨a, n, c, rfl⟩ := hv
  go_enter Try.func29, Try.ntmps29
  go_wp2_with (at_builtin; refine wpList_copy _ okInt rfl _ _ rfl w.heap.size w.heap.size rfl (Bk.new w _ _) (Nat.le_refl _) _ _ _ l rfl (H.out.alloc _) hb ?_; intro v' w1 ho hg)
  go_ret
  have hs := ho.sl (fun _ => rfl)
  exact ⟨_, rfl, hs, gb_trans' (gb_alloc (gb_refl _ _) _) hg (fun g e => by cases e; exact .inr (Nat.le_refl _))⟩
theorem ownSpans_c (lo hi : Nat) (v : Value) (l : List Sp) (w : World) (h : Sps lo hi w v l) (hb : l.length ≤ 100000000000) :
    Calls Try.prog 54 #[v] w (Copy spEnc 2 l w) := by
  obtain ⟨a, c, e⟩ := h.any
  have hv : ∃ a n c, v = .slice a n c := ⟨_, _, _, e⟩
  have H := Lib.hid h
  clear h e
  obtain ⟨a, n, c, rfl⟩ := hv
  go_enter Try.func54, Try.ntmps54
  go_wp2_with (at_builtin; refine wpList_copy _ okSp rfl _ _ rfl w.heap.size w.heap.size rfl (Bk.new w _ _) (Nat.le_refl _) _ _ _ l rfl (H.out.alloc _) hb ?_; intro v' w1 ho hg)
  go_ret
  have hs := ho.sl (fun _ => rfl)
  exact ⟨_, rfl, hs, gb_trans' (gb_alloc (gb_refl _ _) _) hg (fun g e => by cases e; exact .inr (Nat.le_refl _))⟩
end Go.Proofs.Ytfifldbinnkdmaa
