/- build and its reference: what is wrong with jobs, by the reference. -/
import Derived.Test.YtkclabflkocbaaaGreatLJ3
set_option linter.unusedVariables false
set_option linter.unusedSimpArgs false
set_option linter.unnecessarySimpa false
namespace Go.Proofs.YtkclabflkocbaaaGreat
open Go.RowKit
set_option maxRecDepth 100000
theorem out5_c (n lo hi : Int) (w : World)  :
  Calls Tryz.prog 33 #[.int .i64 n, .int .i64 lo, .int .i64 hi] w (fun e w' => e = .returned (.bool (outB n lo hi)) /\ w = w') := by
 have F1 : Bun w [] w := Bun.nil _
 go_enter Tryz.func33, Tryz.ntmps33
 by_cases c2 : n < lo
 ·
  have c2H := lhd c2
  have Hx3 := lhd (show ((outB n lo hi : Bool)) = true by simp [outB]; omega)
  go_wp2_with fail
  go_ret
  exact ⟨by rw [Hx3.out] <;> rfl, rfl⟩
 have c2H := lhd c2
 have c2a := dec_f c2
 have Hx4 := lhd (show ((outB n lo hi : Bool)) = (decide (hi < n)) by simp [outB]; omega)
 go_wp2_with fail
 go_ret
 exact ⟨by rw [Hx4.out] <;> rfl, rfl⟩
end Go.Proofs.YtkclabflkocbaaaGreat
