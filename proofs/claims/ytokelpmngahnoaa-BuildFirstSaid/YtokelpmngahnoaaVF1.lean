/- frost and its reference: spans, parts, roots. -/
import Derived.Test.YtokelpmngahnoaaVK1
set_option linter.unusedVariables false
set_option linter.unusedSimpArgs false
set_option linter.unnecessarySimpa false
namespace Go.Proofs.Ytokelpmngahnoaa
open Go.RowKit
def spanErr (a b lo hi : Int) : Int := if a < lo ∨ hi < a ∨ b < lo ∨ hi < b then 2 else if b < a then 11 else 0
theorem spanErr_ok {a b lo hi : Int} (h : spanErr a b lo hi = 0) : lo <= a /\ a <= b /\ b <= hi := by
 unfold spanErr at h
 split at h
 · cases h
 split at h
 · cases h
 · omega
theorem fault_c (a b lo hi : Int) (w : World)  :
  Calls Try.prog 123 #[.agg #[.int .i64 a, .int .i64 b], .int .i64 lo, .int .i64 hi] w (Ret (.int .i64 (spanErr a b lo hi)) w) := by
 have F1 : Bun w [] w := Bun.nil _
 go_enter Try.func123, Try.ntmps123
 by_cases c2 : a < lo
 ·
  have c2H := lhd c2
  have Hx3 := lhd (show ((spanErr a b lo hi : Int)) = 2 by unfold spanErr; (repeat' split) <;> omega)
  go_wp2_with fail
  have F4 := F1.new 39 #[.int .i64 a, .int .i64 b] (n := w.heap.size) (by simp)
  clear F1
  go_ret
  exact ⟨by rw [Hx3.out] <;> rfl, F4.gb⟩
 have c2H := lhd c2
 have c2a : decide (a < lo) = false := dec_f c2
 by_cases c5 : hi < a
 ·
  have c5H := lhd c5
  have Hx6 := lhd (show ((spanErr a b lo hi : Int)) = 2 by unfold spanErr; (repeat' split) <;> omega)
  go_wp2_with fail
  have F7 := F1.new 39 #[.int .i64 a, .int .i64 b] (n := w.heap.size) (by simp)
  clear F1
  go_ret
  exact ⟨by rw [Hx6.out] <;> rfl, F7.gb⟩
 have c5H := lhd c5
 have c5a : decide (hi < a) = false := dec_f c5
 by_cases c8 : b < lo
 ·
  have c8H := lhd c8
  have Hx9 := lhd (show ((spanErr a b lo hi : Int)) = 2 by unfold spanErr; (repeat' split) <;> omega)
  go_wp2_with fail
  have F10 := F1.new 39 #[.int .i64 a, .int .i64 b] (n := w.heap.size) (by simp)
  clear F1
  go_ret
  exact ⟨by rw [Hx9.out] <;> rfl, F10.gb⟩
 have c8H := lhd c8
 have c8a : decide (b < lo) = false := dec_f c8
 by_cases c11 : hi < b
 ·
  have c11H := lhd c11
  have Hx12 := lhd (show ((spanErr a b lo hi : Int)) = 2 by unfold spanErr; (repeat' split) <;> omega)
  go_wp2_with fail
  have F13 := F1.new 39 #[.int .i64 a, .int .i64 b] (n := w.heap.size) (by simp)
  clear F1
  go_ret
  exact ⟨by rw [Hx12.out] <;> rfl, F13.gb⟩
 have c11H := lhd c11
 have c11a : decide (hi < b) = false := dec_f c11
 by_cases c14 : b < a
 ·
  have c14H := lhd c14
  have Hx15 := lhd (show ((spanErr a b lo hi : Int)) = 11 by unfold spanErr; (repeat' split) <;> omega)
  go_wp2_with fail
  have F16 := F1.new 39 #[.int .i64 a, .int .i64 b] (n := w.heap.size) (by simp)
  clear F1
  go_ret
  exact ⟨by rw [Hx15.out] <;> rfl, F16.gb⟩
 have c14H := lhd c14
 have c14a : decide (b < a) = false := dec_f c14
 have Hx17 := lhd (show ((spanErr a b lo hi : Int)) = 0 by unfold spanErr; (repeat' split) <;> omega)
 go_wp2_with fail
 have F18 := F1.new 39 #[.int .i64 a, .int .i64 b] (n := w.heap.size) (by simp)
 clear F1
 go_ret
 exact ⟨by rw [Hx17.out] <;> rfl, F18.gb⟩
end Go.Proofs.Ytokelpmngahnoaa
