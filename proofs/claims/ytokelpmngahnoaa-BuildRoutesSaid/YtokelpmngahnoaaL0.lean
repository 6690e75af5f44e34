/- build and its reference: spans within spans; Times of what has no error. -/
import Derived.Test.YtokelpmngahnoaaJ10
set_option linter.unusedVariables false
set_option linter.unusedSimpArgs false
set_option linter.unnecessarySimpa false
namespace Go.Proofs.Ytokelpmngahnoaa
open Go.RowKit
set_option maxRecDepth 100000
def inSB (a b : Sp) : Bool := decide (b.lo ≤ a.lo) && decide (a.hi ≤ b.hi)
theorem inSB_t {a b : Sp} (h1 : b.lo ≤ a.lo) (h2 : a.hi ≤ b.hi) : inSB a b = true := by unfold inSB; rw [decide_eq_true h1, decide_eq_true h2]; rfl

theorem in_c (a b : Sp) (w : World)  :
    Calls Try.prog 31 #[.agg #[.int .i64 a.lo, .int .i64 a.hi], .agg #[.int .i64 b.lo, .int .i64 b.hi]] w (Ret (.bool (inSB a b)) w) := by
  have F1 : Bun w [] w := Bun.nil _
  go_enter Try.func31, Try.ntmps31
  by_cases c2 : b.lo ≤ a.lo
  · skip
    have c2H := Lib.hid c2
    have Hx3 := Lib.hid (show ((inSB a b : Bool)) = (decide (a.hi ≤ b.hi)) by unfold inSB; simp [c2H.out])
    go_wp2_with fail
    have F4 := F1.new 39 #[.int .i64 a.lo, .int .i64 a.hi] (n := w.heap.size) (by simp)
    clear F1
    have F5 := F4.new 39 #[.int .i64 b.lo, .int .i64 b.hi] (n := (w.heap.size + 1)) (by simp)
    clear F4
    go_ret
    exact ⟨by rw [Hx3.out] <;> rfl, F5.gb⟩
  · skip
    have c2H := Lib.hid c2
    have c2a : decide (b.lo ≤ a.lo) = false := dec_f c2
    have Hx6 := Lib.hid (show ((inSB a b : Bool)) = false by unfold inSB; simp [c2H.out])
    go_wp2_with fail
    have F7 := F1.new 39 #[.int .i64 a.lo, .int .i64 a.hi] (n := w.heap.size) (by simp)
    clear F1
    have F8 := F7.new 39 #[.int .i64 b.lo, .int .i64 b.hi] (n := (w.heap.size + 1)) (by simp)
    clear F7
    go_ret
    exact ⟨by rw [Hx6.out] <;> rfl, F8.gb⟩

theorem in_yes {a b : Sp} (h1 : b.lo ≤ a.lo) (h2 : a.hi ≤ b.hi) (w : World) : Calls Try.prog 31 #[.agg #[.int .i64 a.lo, .int .i64 a.hi], .agg #[.int .i64 b.lo, .int .i64 b.hi]] w (Ret (.bool true) w) := by
  have h := in_c a b w
  rw [inSB_t h1 h2] at h
  exact h
/-- What Times hands back of a job that has no error. -/
theorem btimes_ok (lo hi : Nat) (vm vt : Value) (ms : List Mch) (ts : List Tsk) (lo2 hi2 : Nat) (vd : Value) (dl : List Wea) (w : World) (hj : JobAt lo hi w vm vt ms ts) (h2 : hi ≤ w.heap.size) (hd : Sl weaEnc 6 lo2 hi2 w vd dl) (h3 : hi2 ≤ w.heap.size) (he : bothErr ms ts dl = 0) (x y : Int) (hx : (caseOf false ms ts dl).opn ts.length = x) (hy : (caseOf true ms ts dl).opn ts.length = y) :
    Calls Try.prog 20 #[.agg #[vm, vt], vd] w (fun e w' => ∃ (a : Option Addr) (c lo hi : Nat), e = .returned (.tuple #[.slice a ts.length c, .agg #[.int .i64 x, .int .i64 y], .int .i64 0]) ∧ (w.heap.size ≤ lo ∧ hi ≤ w'.heap.size) ∧ Sl timEnc 4 lo hi w' (.slice a ts.length c) (timN (caseOf false ms ts dl) (caseOf true ms ts dl) ts.length ts.length) ∧ w.grownBy w' none) := by
  refine (btimes_c lo hi vm vt ms ts lo2 hi2 vd dl w hj h2 hd h3).mono ?_
  rintro e w' ⟨a, c, lo', hi', he', h4, hs, hg⟩
  have e1 : timsOf ms ts dl = timN (caseOf false ms ts dl) (caseOf true ms ts dl) ts.length ts.length := by rw [timsOf, if_pos he]
  have e2 : opnOf ms ts dl = ⟨(caseOf false ms ts dl).opn ts.length, (caseOf true ms ts dl).opn ts.length⟩ := by rw [opnOf, if_pos he]
  rw [e1, timN_len, e2, he, hx, hy] at he'
  rw [e1, timN_len] at hs
  exact ⟨a, c, lo', hi', he', h4, hs, hg⟩
theorem timN_get {c d : Cs} {n k i : Nat} (h : i < k) : (timN c d n k)[i]? = some (timAt c d n i) := by simp [timN, h]
end Go.Proofs.Ytokelpmngahnoaa
