/- frost and its reference: spans, parts, roots. -/
import Derived.Test.YtkclabflkocbaaaRK1
set_option linter.unusedVariables false
set_option linter.unusedSimpArgs false
set_option linter.unnecessarySimpa false
namespace Go.Proofs.Ytkclabflkocbaaa
open Go.RowKit
def spanErr (a b lo hi : Int) : Int := if a < lo ∨ hi < a ∨ b < lo ∨ hi < b then 2 else if b < a then 11 else 0
theorem spanErr_ok {a b lo hi : Int} (h : spanErr a b lo hi = 0) : lo <= a /\ a <= b /\ b <= hi := by
 unfold spanErr at h
 split at h
 · cases h
 split at h
 · cases h
 · omega
def dn (n p : Int) : Int := n * p / 1000000
def upp (n p : Int) : Int := (n * p + 1000000 - 1) / 1000000
theorem fault_c (a b lo hi : Int) (w : World)  :
  Calls Try.prog 56 #[.agg #[.int .i64 a, .int .i64 b], .int .i64 lo, .int .i64 hi] w (Ret (.int .i64 (spanErr a b lo hi)) w) := by
 have F1 : Bun w [] w := Bun.nil _
 go_enter Try.func56, Try.ntmps56
 by_cases c2 : a < lo
 ·
  have c2H := lhd c2
  have Hx3 := lhd (show ((spanErr a b lo hi : Int)) = 2 by unfold spanErr; (repeat' split) <;> omega)
  go_wp2_with fail
  replace F1 := F1.new 27 #[.int .i64 a, .int .i64 b] (n := w.heap.size) (by simp)
  go_ret
  exact ⟨by rw [Hx3.out] <;> rfl, F1.gb⟩
 have c2H := lhd c2
 have c2a : decide (a < lo) = false := dec_f c2
 by_cases c5 : hi < a
 ·
  have c5H := lhd c5
  have Hx6 := lhd (show ((spanErr a b lo hi : Int)) = 2 by unfold spanErr; (repeat' split) <;> omega)
  go_wp2_with fail
  replace F1 := F1.new 27 #[.int .i64 a, .int .i64 b] (n := w.heap.size) (by simp)
  go_ret
  exact ⟨by rw [Hx6.out] <;> rfl, F1.gb⟩
 have c5H := lhd c5
 have c5a : decide (hi < a) = false := dec_f c5
 by_cases c8 : b < lo
 ·
  have c8H := lhd c8
  have Hx9 := lhd (show ((spanErr a b lo hi : Int)) = 2 by unfold spanErr; (repeat' split) <;> omega)
  go_wp2_with fail
  replace F1 := F1.new 27 #[.int .i64 a, .int .i64 b] (n := w.heap.size) (by simp)
  go_ret
  exact ⟨by rw [Hx9.out] <;> rfl, F1.gb⟩
 have c8H := lhd c8
 have c8a : decide (b < lo) = false := dec_f c8
 by_cases c11 : hi < b
 ·
  have c11H := lhd c11
  have Hx12 := lhd (show ((spanErr a b lo hi : Int)) = 2 by unfold spanErr; (repeat' split) <;> omega)
  go_wp2_with fail
  replace F1 := F1.new 27 #[.int .i64 a, .int .i64 b] (n := w.heap.size) (by simp)
  go_ret
  exact ⟨by rw [Hx12.out] <;> rfl, F1.gb⟩
 have c11H := lhd c11
 have c11a : decide (hi < b) = false := dec_f c11
 by_cases c14 : b < a
 ·
  have c14H := lhd c14
  have Hx15 := lhd (show ((spanErr a b lo hi : Int)) = 11 by unfold spanErr; (repeat' split) <;> omega)
  go_wp2_with fail
  replace F1 := F1.new 27 #[.int .i64 a, .int .i64 b] (n := w.heap.size) (by simp)
  go_ret
  exact ⟨by rw [Hx15.out] <;> rfl, F1.gb⟩
 have c14H := lhd c14
 have c14a : decide (b < a) = false := dec_f c14
 have Hx17 := lhd (show ((spanErr a b lo hi : Int)) = 0 by unfold spanErr; (repeat' split) <;> omega)
 go_wp2_with fail
 replace F1 := F1.new 27 #[.int .i64 a, .int .i64 b] (n := w.heap.size) (by simp)
 go_ret
 exact ⟨by rw [Hx17.out] <;> rfl, F1.gb⟩
theorem down_c (n p : Int) (w : World) (hn : 0 <= n) (hn2 : n <= 100000000000) (hp : 0 <= p) (hp2 : p <= 10000000) :
  Calls Try.prog 43 #[.int .i64 n, .int .i64 p] w (fun e w' => e = .returned (.int .i64 (dn n p)) /\ w = w') := by
 have hm : 0 <= n * p := Int.mul_nonneg hn hp
 have hm2 : n * p <= 1000000000000000000 := by
  have h1 : n * p <= n * 10000000 := Int.mul_le_mul_of_nonneg_left hp2 hn
  omega
 have F1 : Bun w [] w := Bun.nil _
 go_enter Try.func43, Try.ntmps43
 have Hx2 := lhd (show ((dn n p : Int)) = (n * p) / 1000000 by rfl)
 go_wp2_with fail
 go_ret
 exact ⟨by rw [Hx2.out] <;> rfl, rfl⟩
theorem up_c (n p : Int) (w : World) (hn : 0 <= n) (hn2 : n <= 100000000000) (hp : 0 <= p) (hp2 : p <= 10000000) :
  Calls Try.prog 44 #[.int .i64 n, .int .i64 p] w (fun e w' => e = .returned (.int .i64 (upp n p)) /\ w = w') := by
 have hm : 0 <= n * p := Int.mul_nonneg hn hp
 have hm2 : n * p <= 1000000000000000000 := by
  have h1 : n * p <= n * 10000000 := Int.mul_le_mul_of_nonneg_left hp2 hn
  omega
 have F1 : Bun w [] w := Bun.nil _
 go_enter Try.func44, Try.ntmps44
 have Hx2 := lhd (show ((upp n p : Int)) = (n * p + 1000000 - 1) / 1000000 by rfl)
 go_wp2_with fail
 go_ret
 exact ⟨by rw [Hx2.out] <;> rfl, rfl⟩
end Go.Proofs.Ytkclabflkocbaaa
