/- frost and its reference: spans, parts, roots. -/
import Derived.Test.YtokelpmngahnoaaUK1
set_option linter.unusedVariables false
set_option linter.unusedSimpArgs false
set_option linter.unnecessarySimpa false
namespace Go.Proofs.Ytokelpmngahnoaa
open Go.RowKit
def spanErr (a b lo hi : Int) : Int := if a < lo ∨ hi < a ∨ b < lo ∨ hi < b then 2 else if b < a then 11 else 0
theorem spanErr_ok {a b lo hi : Int} (h : spanErr a b lo hi = 0) : lo <= a /\ a <= b /\ b <= hi := by
 unfold spanErr at h
 split at h
 · cases h
 split at h
 · cases h
 · omega
def outB (n lo hi : Int) : Bool := decide (n < lo ∨ hi < n)
theorem outB_t {n lo hi : Int} (h : outB n lo hi = true) : n < lo ∨ hi < n := by simpa [outB] using h
theorem outB_f {n lo hi : Int} (h : outB n lo hi = false) : ¬ (n < lo ∨ hi < n) := by simpa [outB] using h
theorem fault_c (a b lo hi : Int) (w : World)  :
  Calls Try.prog 123 #[.agg #[.int .i64 a, .int .i64 b], .int .i64 lo, .int .i64 hi] w (Ret (.int .i64 (spanErr a b lo hi)) w) := by
 have F1 : Bun w [] w := Bun.nil _
 go_enter Try.func123, Try.ntmps123
 by_cases c2 : a < lo
 ·
  have c2H := lhd c2
  have Hx3 := lhd (show ((spanErr a b lo hi : Int)) = 2 by unfold spanErr; (repeat' split) <;> omega)
  go_wp2_with fail
  replace F1 := F1.new 39 #[.int .i64 a, .int .i64 b] (n := w.heap.size) (by simp)
  go_ret
  exact ⟨by rw [Hx3.out] <;> rfl, F1.gb⟩
 have c2H := lhd c2
 have c2a : decide (a < lo) = false := dec_f c2
 by_cases c5 : hi < a
 ·
  have c5H := lhd c5
  have Hx6 := lhd (show ((spanErr a b lo hi : Int)) = 2 by unfold spanErr; (repeat' split) <;> omega)
  go_wp2_with fail
  replace F1 := F1.new 39 #[.int .i64 a, .int .i64 b] (n := w.heap.size) (by simp)
  go_ret
  exact ⟨by rw [Hx6.out] <;> rfl, F1.gb⟩
 have c5H := lhd c5
 have c5a : decide (hi < a) = false := dec_f c5
 by_cases c8 : b < lo
 ·
  have c8H := lhd c8
  have Hx9 := lhd (show ((spanErr a b lo hi : Int)) = 2 by unfold spanErr; (repeat' split) <;> omega)
  go_wp2_with fail
  replace F1 := F1.new 39 #[.int .i64 a, .int .i64 b] (n := w.heap.size) (by simp)
  go_ret
  exact ⟨by rw [Hx9.out] <;> rfl, F1.gb⟩
 have c8H := lhd c8
 have c8a : decide (b < lo) = false := dec_f c8
 by_cases c11 : hi < b
 ·
  have c11H := lhd c11
  have Hx12 := lhd (show ((spanErr a b lo hi : Int)) = 2 by unfold spanErr; (repeat' split) <;> omega)
  go_wp2_with fail
  replace F1 := F1.new 39 #[.int .i64 a, .int .i64 b] (n := w.heap.size) (by simp)
  go_ret
  exact ⟨by rw [Hx12.out] <;> rfl, F1.gb⟩
 have c11H := lhd c11
 have c11a : decide (hi < b) = false := dec_f c11
 by_cases c14 : b < a
 ·
  have c14H := lhd c14
  have Hx15 := lhd (show ((spanErr a b lo hi : Int)) = 11 by unfold spanErr; (repeat' split) <;> omega)
  go_wp2_with fail
  replace F1 := F1.new 39 #[.int .i64 a, .int .i64 b] (n := w.heap.size) (by simp)
  go_ret
  exact ⟨by rw [Hx15.out] <;> rfl, F1.gb⟩
 have c14H := lhd c14
 have c14a : decide (b < a) = false := dec_f c14
 have Hx17 := lhd (show ((spanErr a b lo hi : Int)) = 0 by unfold spanErr; (repeat' split) <;> omega)
 go_wp2_with fail
 replace F1 := F1.new 39 #[.int .i64 a, .int .i64 b] (n := w.heap.size) (by simp)
 go_ret
 exact ⟨by rw [Hx17.out] <;> rfl, F1.gb⟩
theorem outside_c (n lo hi : Int) (w : World)  :
  Calls Try.prog 126 #[.int .i64 n, .int .i64 lo, .int .i64 hi] w (fun e w' => e = .returned (.bool (outB n lo hi)) /\ w = w') := by
 have F1 : Bun w [] w := Bun.nil _
 go_enter Try.func126, Try.ntmps126
 by_cases c2 : n < lo
 ·
  have c2H := lhd c2
  have Hx3 := lhd (show ((outB n lo hi : Bool)) = true by simp [outB]; omega)
  go_wp2_with fail
  go_ret
  exact ⟨by rw [Hx3.out] <;> rfl, rfl⟩
 have c2H := lhd c2
 have c2a : decide (n < lo) = false := dec_f c2
 have Hx4 := lhd (show ((outB n lo hi : Bool)) = decide (hi < n) by simp [outB]; omega)
 go_wp2_with fail
 go_ret
 exact ⟨by rw [Hx4.out] <;> rfl, rfl⟩
theorem rcheckSpan_c (a b lo hi : Int) (w : World)  :
  Calls Try.prog 125 #[.agg #[.int .i64 a, .int .i64 b], .int .i64 lo, .int .i64 hi] w (Ret (.int .i64 (spanErr a b lo hi)) w) := by
 have F1 : Bun w [] w := Bun.nil _
 go_enter Try.func125, Try.ntmps125
 go_wp2_with fail
 replace F1 := F1.new 39 #[.int .i64 a, .int .i64 b] (n := w.heap.size) (by simp)
 refine (outside_c _ _ _ _).mono ?_
 rintro e _ ⟨rfl, rfl⟩
 obtain ⟨w3, hx4, F6, hxs5⟩ := (show Bun w [rbox w.heap.size 39 #[.int .i64 a, .int .i64 b]] _ from F1).name
 (try simp at hxs5)
 rw [hx4]
 clear hx4 F1
 cases c7 : outB a lo hi
 ·
  have b8 := F6.bx2 0 rfl
  go_wp2_with fail
  clear b8
  refine (outside_c _ _ _ _).mono ?_
  rintro e _ ⟨rfl, rfl⟩
  cases c9 : outB b lo hi
  ·
   by_cases c10 : b < a
   ·
    have c10H := lhd c10
    have Hx11 := lhd (show ((spanErr a b lo hi : Int)) = 11 by unfold spanErr; simp only [outB, decide_eq_true_eq, decide_eq_false_iff_not] at *; (repeat' split) <;> omega)
    have b12 := F6.bx2 0 rfl
    go_wp2_with fail
    clear b12
    go_ret
    exact ⟨by rw [Hx11.out] <;> rfl, F6.gb⟩
   have c10H := lhd c10
   have c10a : decide (b < a) = false := dec_f c10
   have Hx13 := lhd (show ((spanErr a b lo hi : Int)) = 0 by unfold spanErr; simp only [outB, decide_eq_true_eq, decide_eq_false_iff_not] at *; (repeat' split) <;> omega)
   have b14 := F6.bx2 0 rfl
   go_wp2_with fail
   clear b14
   go_ret
   exact ⟨by rw [Hx13.out] <;> rfl, F6.gb⟩
  have Hx15 := lhd (show ((spanErr a b lo hi : Int)) = 2 by unfold spanErr; simp only [outB, decide_eq_true_eq, decide_eq_false_iff_not] at *; (repeat' split) <;> omega)
  go_wp2_with fail
  go_ret
  exact ⟨by rw [Hx15.out] <;> rfl, F6.gb⟩
 have Hx16 := lhd (show ((spanErr a b lo hi : Int)) = 2 by unfold spanErr; simp only [outB, decide_eq_true_eq, decide_eq_false_iff_not] at *; (repeat' split) <;> omega)
 go_wp2_with fail
 go_ret
 exact ⟨by rw [Hx16.out] <;> rfl, F6.gb⟩
end Go.Proofs.Ytokelpmngahnoaa
