/- build and its reference: on which days a machine works. -/
import Derived.Test.YtokelpmngahnoaaUJ10
import Derived.Test.YtokelpmngahnoaaUW0
set_option linter.unusedVariables false
set_option linter.unusedSimpArgs false
set_option linter.unnecessarySimpa false
namespace Go.Proofs.Ytokelpmngahnoaa
open Go.RowKit
set_option maxRecDepth 100000
attribute [local go_sem] Oper.semAt_some
def wksN (x : Mch) (dl : List Wea) (k : Nat) : List Int := (dl.take k).map (wkV x)
def wksOf (x : Mch) (dl : List Wea) : List Int := if bothErr [x] [] dl = 0 then wksN x dl dl.length else []
def WorksR (x : Mch) (dl : List Wea) (w : World) : Ending -> World -> Prop := fun e w' => ∃ (a : Option Addr) (cp lo hi : Nat), e = .returned (.tuple #[.slice a (wksOf x dl).length cp, .int .i64 (bothErr [x] [] dl)]) ∧
 (w.heap.size <= lo /\ hi <= w'.heap.size) /\ Sl intEnc 1 lo hi w' (.slice a (wksOf x dl).length cp) (wksOf x dl) /\ w.grownBy w' none
theorem WorksR.yes {x : Mch} {dl : List Wea} {w w' : World} {e : Ending} {v : Value} (h : bothErr [x] [] dl = 0) (ho : Own intEnc 3 1 w.heap.size w' v (wksN x dl dl.length)) (hg : w.grownBy w' none) (he : e = .returned (.tuple #[v, .int .i64 0])) : WorksR x dl w e w' := by
 have e1 : wksOf x dl = wksN x dl dl.length := by rw [wksOf, if_pos h]
 obtain ⟨a, cp, rfl, hs⟩ := Own.slN ho (fun _ => rfl) rfl
 unfold WorksR
 rw [e1, h]
 exact ⟨a, cp, _, _, he, ⟨Nat.le_refl _, Nat.le_refl _⟩, hs, hg⟩
theorem WorksR.no {x : Mch} {dl : List Wea} {w w' : World} {e : Ending} (h : ¬ bothErr [x] [] dl = 0) (hg : w.grownBy w' none) (he : e = .returned (.tuple #[.slice none 0 0, .int .i64 (bothErr [x] [] dl)])) : WorksR x dl w e w' := by
 have e1 : wksOf x dl = [] := by rw [wksOf, if_neg h]
 unfold WorksR
 rw [e1]
 exact ⟨none, 0, w.heap.size, w.heap.size, he, ⟨Nat.le_refl _, hg.size⟩, Sl.of_nil _ _, hg⟩
end Go.Proofs.Ytokelpmngahnoaa
