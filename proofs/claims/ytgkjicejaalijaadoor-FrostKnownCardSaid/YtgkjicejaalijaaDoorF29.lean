/- the kit of frost: days made of numbers. -/
import Derived.Test.YtgkjicejaalijaaDoorF15
import Derived.Test.YtgkjicejaalijaaDoorF23
import Derived.Test.YtgkjicejaalijaaDoorK1
set_option linter.unusedVariables false
set_option linter.unusedSimpArgs false
set_option linter.unnecessarySimpa false
namespace Go.Proofs.YtgkjicejaalijaaDoor
open Go.RowKit
set_option maxRecDepth 100000

theorem infoWea : (Tryd.prog.info? 42).map (fun i => (i.zero, i.size, i.bytes)) = some (some (.agg #[.int .i64 0, .int .i64 0, .int .i64 0, .int .i64 0, .int .i64 0, .bool false]), 6, 48) := by kernel_rfl
theorem okWea : ElemOk Tryd.prog 44 42 6 48 weaEnc where
  under := Tryd.underlying44
  info := info5 infoWea rfl
  pos := by omega
  small := by omega
  len := fun _ => rfl
  one := fun x u hu => by
    simp [weaEnc] at hu
    rcases hu with rfl | rfl | rfl | rfl | rfl | rfl <;> rfl
theorem Bus.nilrow {α : Type} (enc : α → List Value) (e : TypeId) (sz : Nat) {w0 A : World} {sd : Nat} {L : List Res} (h : Bus w0 sd L A) : Bus w0 sd (rown enc e sz w0.heap.size (.slice none 0 0) [] :: L) A :=
  h.add (rown enc e sz w0.heap.size (.slice none 0 0) []) (gb_refl _ _) (Own.nil _ _ _ _ _) fun g e => by cases e
def DaysPost (sb : Nat) (most : Int) (frost : Bool) (w : World) : Ending → World → Prop := fun e w' => ∃ vo l, e = .returned vo ∧ Own weaEnc 42 6 w.heap.size w' vo l ∧ (l.length : Int) ≤ most ∧ (∀ d ∈ l, weaErr d = 0 ∧ (frost = true → 0 ≤ d.cold.lo)) ∧ SeedAt w' sb ∧ w.grownBy w' (some sb)
end Go.Proofs.YtgkjicejaalijaaDoor
