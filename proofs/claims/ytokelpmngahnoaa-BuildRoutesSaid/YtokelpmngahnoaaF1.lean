/- frost and its reference: spans, parts, roots. -/
import Derived.Test.YtokelpmngahnoaaK1
set_option linter.unusedVariables false
set_option linter.unusedSimpArgs false
set_option linter.unnecessarySimpa false
namespace Go.Proofs.Ytokelpmngahnoaa
open Go.RowKit

/-- The error of a span of numbers from lo to hi. -/
def spanErr (a b lo hi : Int) : Int := if a < lo ∨ hi < a ∨ b < lo ∨ hi < b then 2 else if b < a then 11 else 0
theorem spanErr_ok {a b lo hi : Int} (h : spanErr a b lo hi = 0) : lo ≤ a ∧ a ≤ b ∧ b ≤ hi := by
  unfold spanErr at h
  split at h
  · cases h
  · split at h
    · cases h
    · omega
def outB (n lo hi : Int) : Bool := decide (n < lo ∨ hi < n)
theorem outB_t {n lo hi : Int} (h : outB n lo hi = true) : n < lo ∨ hi < n := by simpa [outB] using h
theorem outB_f {n lo hi : Int} (h : outB n lo hi = false) : ¬ (n < lo ∨ hi < n) := by simpa [outB] using h
def dn (n p : Int) : Int := n * p / 1000000
def upp (n p : Int) : Int := (n * p + 1000000 - 1) / 1000000
theorem fault_c (a b lo hi : Int) (w : World)  :
    Calls Try.prog 123 #[.agg #[.int .i64 a, .int .i64 b], .int .i64 lo, .int .i64 hi] w (Ret (.int .i64 (spanErr a b lo hi)) w) := by
  have F1 : Bun w [] w := Bun.nil _
  go_enter Try.func123, Try.ntmps123
  by_cases c2 : a < lo
  · skip
    have c2H := Lib.hid c2
    have Hx3 := Lib.hid (show ((spanErr a b lo hi : Int)) = 2 by unfold spanErr; (repeat' split) <;> omega)
    go_wp2_with fail
    have F4 := F1.new 39 #[.int .i64 a, .int .i64 b] (n := w.heap.size) (by simp)
    clear F1
    go_ret
    exact ⟨by rw [Hx3.out] <;> rfl, F4.gb⟩
  · skip
    have c2H := Lib.hid c2
    have c2a : decide (a < lo) = false := dec_f c2
    by_cases c5 : hi < a
    · skip
      have c5H := Lib.hid c5
      have Hx6 := Lib.hid (show ((spanErr a b lo hi : Int)) = 2 by unfold spanErr; (repeat' split) <;> omega)
      go_wp2_with fail
      have F7 := F1.new 39 #[.int .i64 a, .int .i64 b] (n := w.heap.size) (by simp)
      clear F1
      go_ret
      exact ⟨by rw [Hx6.out] <;> rfl, F7.gb⟩
    · skip
      have c5H := Lib.hid c5
      have c5a : decide (hi < a) = false := dec_f c5
      by_cases c8 : b < lo
      · skip
        have c8H := Lib.hid c8
        have Hx9 := Lib.hid (show ((spanErr a b lo hi : Int)) = 2 by unfold spanErr; (repeat' split) <;> omega)
        go_wp2_with fail
        have F10 := F1.new 39 #[.int .i64 a, .int .i64 b] (n := w.heap.size) (by simp)
        clear F1
        go_ret
        exact ⟨by rw [Hx9.out] <;> rfl, F10.gb⟩
      · skip
        have c8H := Lib.hid c8
        have c8a : decide (b < lo) = false := dec_f c8
        by_cases c11 : hi < b
        · skip
          have c11H := Lib.hid c11
          have Hx12 := Lib.hid (show ((spanErr a b lo hi : Int)) = 2 by unfold spanErr; (repeat' split) <;> omega)
          go_wp2_with fail
          have F13 := F1.new 39 #[.int .i64 a, .int .i64 b] (n := w.heap.size) (by simp)
          clear F1
          go_ret
          exact ⟨by rw [Hx12.out] <;> rfl, F13.gb⟩
        · skip
          have c11H := Lib.hid c11
          have c11a : decide (hi < b) = false := dec_f c11
          by_cases c14 : b < a
          · skip
            have c14H := Lib.hid c14
            have Hx15 := Lib.hid (show ((spanErr a b lo hi : Int)) = 11 by unfold spanErr; (repeat' split) <;> omega)
            go_wp2_with fail
            have F16 := F1.new 39 #[.int .i64 a, .int .i64 b] (n := w.heap.size) (by simp)
            clear F1
            go_ret
            exact ⟨by rw [Hx15.out] <;> rfl, F16.gb⟩
          · skip
            have c14H := Lib.hid c14
            have c14a : decide (b < a) = false := dec_f c14
            have Hx17 := Lib.hid (show ((spanErr a b lo hi : Int)) = 0 by unfold spanErr; (repeat' split) <;> omega)
            go_wp2_with fail
            have F18 := F1.new 39 #[.int .i64 a, .int .i64 b] (n := w.heap.size) (by simp)
            clear F1
            go_ret
            exact ⟨by rw [Hx17.out] <;> rfl, F18.gb⟩

theorem outside_c (n lo hi : Int) (w : World)  :
    Calls Try.prog 126 #[.int .i64 n, .int .i64 lo, .int .i64 hi] w (fun e w' => e = .returned (.bool (outB n lo hi)) ∧ w = w') := by
  have F1 : Bun w [] w := Bun.nil _
  go_enter Try.func126, Try.ntmps126
  by_cases c2 : n < lo
  · skip
    have c2H := Lib.hid c2
    have Hx3 := Lib.hid (show ((outB n lo hi : Bool)) = true by simp [outB]; omega)
    go_wp2_with fail
    go_ret
    exact ⟨by rw [Hx3.out] <;> rfl, rfl⟩
  · skip
    have c2H := Lib.hid c2
    have c2a : decide (n < lo) = false := dec_f c2
    have Hx4 := Lib.hid (show ((outB n lo hi : Bool)) = decide (hi < n) by simp [outB]; omega)
    go_wp2_with fail
    go_ret
    exact ⟨by rw [Hx4.out] <;> rfl, rfl⟩

theorem rcheckSpan_c (a b lo hi : Int) (w : World)  :
    Calls Try.prog 125 #[.agg #[.int .i64 a, .int .i64 b], .int .i64 lo, .int .i64 hi] w (Ret (.int .i64 (spanErr a b lo hi)) w) := by
  have F1 : Bun w [] w := Bun.nil _
  go_enter Try.func125, Try.ntmps125
  go_wp2_with fail
  have F2 := F1.new 39 #[.int .i64 a, .int .i64 b] (n := w.heap.size) (by simp)
  clear F1
  refine (outside_c _ _ _ _).mono ?_
  rintro e _ ⟨rfl, rfl⟩
  obtain ⟨w3, hx4, F6, hxs5⟩ := (show Bun w [rbox w.heap.size 39 #[.int .i64 a, .int .i64 b]] _ from F2).name
  (try simp at hxs5)
  rw [hx4]
  clear hx4 F2
  cases c7 : outB a lo hi
  · skip
    have b8 := F6.bx2 0 rfl
    go_wp2_with fail
    clear b8
    refine (outside_c _ _ _ _).mono ?_
    rintro e _ ⟨rfl, rfl⟩
    cases c9 : outB b lo hi
    · skip
      by_cases c10 : b < a
      · skip
        have c10H := Lib.hid c10
        have Hx11 := Lib.hid (show ((spanErr a b lo hi : Int)) = 11 by unfold spanErr; simp only [outB, decide_eq_true_eq, decide_eq_false_iff_not] at *; (repeat' split) <;> omega)
        have b12 := F6.bx2 0 rfl
        go_wp2_with fail
        clear b12
        go_ret
        exact ⟨by rw [Hx11.out] <;> rfl, F6.gb⟩
      · skip
        have c10H := Lib.hid c10
        have c10a : decide (b < a) = false := dec_f c10
        have Hx13 := Lib.hid (show ((spanErr a b lo hi : Int)) = 0 by unfold spanErr; simp only [outB, decide_eq_true_eq, decide_eq_false_iff_not] at *; (repeat' split) <;> omega)
        have b14 := F6.bx2 0 rfl
        go_wp2_with fail
        clear b14
        go_ret
        exact ⟨by rw [Hx13.out] <;> rfl, F6.gb⟩
    · skip
      have Hx15 := Lib.hid (show ((spanErr a b lo hi : Int)) = 2 by unfold spanErr; simp only [outB, decide_eq_true_eq, decide_eq_false_iff_not] at *; (repeat' split) <;> omega)
      go_wp2_with fail
      go_ret
      exact ⟨by rw [Hx15.out] <;> rfl, F6.gb⟩
  · skip
    have Hx16 := Lib.hid (show ((spanErr a b lo hi : Int)) = 2 by unfold spanErr; simp only [outB, decide_eq_true_eq, decide_eq_false_iff_not] at *; (repeat' split) <;> omega)
    go_wp2_with fail
    go_ret
    exact ⟨by rw [Hx16.out] <;> rfl, F6.gb⟩

end Go.Proofs.Ytokelpmngahnoaa
