/- fuel and its reference: numbers in bounds, spans, division rounded down and up. -/
import Derived.Test.YtcndphefomigeaaDoorPMem
import Derived.Lib.MinMax
import Derived.BigQuiet
import Derived.Deep.QuietTactic
set_option linter.unusedVariables false
set_option linter.unusedSimpArgs false
set_option linter.unnecessarySimpa false
namespace Go.Proofs.YtcndphefomigeaaDoor
open Go.RowKit

def inB (n lo hi : Int) : Bool := decide (lo ≤ n ∧ n ≤ hi)
theorem inB_yes {n lo hi : Int} (h : inB n lo hi = true) : lo ≤ n ∧ n ≤ hi := by simpa [inB] using h
theorem inB_mk {n lo hi : Int} (h1 : lo ≤ n) (h2 : n ≤ hi) : inB n lo hi = true := by simp [inB, h1, h2]
theorem inB_no {n lo hi : Int} (h : ¬ (lo ≤ n ∧ n ≤ hi)) : inB n lo hi = false := by simp only [inB, decide_eq_false_iff_not]; exact h

theorem in_c (n low high : Int) (w : World) : Calls Tryd.prog 49 #[.int .i64 n, .int .i64 low, .int .i64 high] w fun e w' => e = .returned (.bool (inB n low high)) ∧ w = w' := by
  by_cases h1 : low ≤ n
  · by_cases h2 : n ≤ high
    · have hx := inB_mk h1 h2
      have Hx := Lib.hid hx
      clear hx
      go_enter Tryd.func49, Tryd.ntmps49
      go_wp2
      go_ret
      exact ⟨by rw [Hx.out]; rfl, rfl⟩
    · have hx : inB n low high = false := inB_no (by omega)
      have Hx := Lib.hid hx
      clear hx
      go_enter Tryd.func49, Tryd.ntmps49
      go_wp2
      go_ret
      exact ⟨by rw [Hx.out]; rfl, rfl⟩
  · have hx : inB n low high = false := inB_no (by omega)
    have Hx := Lib.hid hx
    clear hx
    go_enter Tryd.func49, Tryd.ntmps49
    go_wp2
    go_ret
    exact ⟨by rw [Hx.out]; rfl, rfl⟩

/-- The error of a span of numbers from lo to hi. -/
def spanErr (a b lo hi : Int) : Int := if (inB a lo hi && inB b lo hi) = true then (if a ≤ b then 0 else 11) else 2
theorem spanErr_ok {a b lo hi : Int} (h : spanErr a b lo hi = 0) : lo ≤ a ∧ a ≤ b ∧ b ≤ hi := by
  unfold spanErr at h
  split at h
  · rename_i h1
    rw [Bool.and_eq_true] at h1
    have h2 := inB_yes h1.1
    have h3 := inB_yes h1.2
    split at h
    · omega
    · omega
  · omega

set_option maxHeartbeats 400000 in
theorem checkSpan_c (a b lo hi : Int) (w : World) : Calls Tryd.prog 21 #[.agg #[.int .i64 a, .int .i64 b], .int .i64 lo, .int .i64 hi] w (Ret (.int .i64 (spanErr a b lo hi)) w) := by
  by_cases h1 : inB a lo hi = true
  · by_cases h2 : inB b lo hi = true
    · by_cases h3 : a ≤ b
      · have hx : spanErr a b lo hi = 0 := by simp [spanErr, h1, h2, h3]
        have Hx := Lib.hid hx
        clear hx
        go_enter Tryd.func21, Tryd.ntmps21
        go_wp2_with (go_at_call 49; refine (in_c _ _ _ _).mono ?_; rintro e w' ⟨rfl, rfl⟩)
        go_ret
        exact ⟨by rw [Hx.out]; rfl, gb_alloc (gb_refl _ _) _⟩
      · have hx : spanErr a b lo hi = 11 := by simp [spanErr, h1, h2, h3]
        have Hx := Lib.hid hx
        clear hx
        go_enter Tryd.func21, Tryd.ntmps21
        go_wp2_with (go_at_call 49; refine (in_c _ _ _ _).mono ?_; rintro e w' ⟨rfl, rfl⟩)
        go_ret
        exact ⟨by rw [Hx.out]; rfl, gb_alloc (gb_refl _ _) _⟩
    · have h2' : inB b lo hi = false := by simpa using h2
      have hx : spanErr a b lo hi = 2 := by simp [spanErr, h1, h2']
      have Hx := Lib.hid hx
      clear hx h2
      go_enter Tryd.func21, Tryd.ntmps21
      go_wp2_with (go_at_call 49; refine (in_c _ _ _ _).mono ?_; rintro e w' ⟨rfl, rfl⟩)
      go_ret
      exact ⟨by rw [Hx.out]; rfl, gb_alloc (gb_refl _ _) _⟩
  · have h1' : inB a lo hi = false := by simpa using h1
    have hx : spanErr a b lo hi = 2 := by simp [spanErr, h1']
    have Hx := Lib.hid hx
    clear hx h1
    go_enter Tryd.func21, Tryd.ntmps21
    go_wp2_with (go_at_call 49; refine (in_c _ _ _ _).mono ?_; rintro e w' ⟨rfl, rfl⟩)
    go_ret
    exact ⟨by rw [Hx.out]; rfl, gb_alloc (gb_refl _ _) _⟩

theorem quo_down (n d : Int) (hd : 0 < d) : n.tdiv d = if n.tmod d < 0 then n / d + 1 else n / d := by
  have h1 := Int.mul_tdiv_add_tmod n d
  have h2 := Int.mul_ediv_add_emod n d
  have h3 := Int.emod_nonneg n (by omega : d ≠ 0)
  have h4 := Int.emod_lt_of_pos n hd
  have h5 : n.tmod d < d := Int.tmod_lt_of_pos n hd
  have h6 : -d < n.tmod d := by
    have h7 := Int.tmod_lt_of_pos (-n) hd
    rw [Int.neg_tmod] at h7
    omega
  have key : d * (n.tdiv d - n / d) = n % d - n.tmod d := by rw [Int.mul_sub]; omega
  split
  · rename_i hneg
    have hb : 0 < d * (n.tdiv d - n / d) ∧ d * (n.tdiv d - n / d) < 2 * d := by omega
    have h8 : 0 < n.tdiv d - n / d := by
      rcases Int.lt_or_le 0 (n.tdiv d - n / d) with h | h
      · exact h
      · have := Int.mul_nonpos_of_nonneg_of_nonpos (Int.le_of_lt hd) h
        omega
    have h9 : n.tdiv d - n / d < 2 := by
      rcases Int.lt_or_le (n.tdiv d - n / d) 2 with h | h
      · exact h
      · have := Int.mul_le_mul_of_nonneg_left h (Int.le_of_lt hd)
        omega
    omega
  · rename_i hpos
    have hb : -d < d * (n.tdiv d - n / d) ∧ d * (n.tdiv d - n / d) < d := by omega
    have h8 : -1 < n.tdiv d - n / d := by
      rcases Int.lt_or_le (-1) (n.tdiv d - n / d) with h | h
      · exact h
      · have := Int.mul_le_mul_of_nonneg_left h (Int.le_of_lt hd)
        omega
    have h9 : n.tdiv d - n / d < 1 := by
      rcases Int.lt_or_le (n.tdiv d - n / d) 1 with h | h
      · exact h
      · have := Int.mul_le_mul_of_nonneg_left h (Int.le_of_lt hd)
        omega
    omega

theorem tdiv_facts (n d : Int) (hd : 0 < d) (h1 : -1000000000000000000 ≤ n) (h2 : n ≤ 1000000000000000000) :
    -1000000000000000000 ≤ n.tdiv d ∧ n.tdiv d ≤ 1000000000000000000 ∧ n.tdiv d * d = n - n.tmod d ∧ (-1000000000000000000 ≤ n.tdiv d * d ∧ n.tdiv d * d ≤ 1000000000000000000) := by
  have e1 := Int.mul_tdiv_add_tmod n d
  rw [Int.mul_comm] at e1
  have a1 : (n.tdiv d).natAbs ≤ n.natAbs := by rw [Int.natAbs_tdiv]; exact Nat.div_le_self _ _
  have a2 : (n.tdiv d * d).natAbs ≤ n.natAbs := by rw [Int.natAbs_mul, Int.natAbs_tdiv]; exact Nat.div_mul_le_self _ _
  omega

set_option maxHeartbeats 400000 in
theorem floor_c (n d : Int) (w : World) (hd : 0 < d) (hd2 : d ≤ 1000000000000000000) (h1 : -1000000000000000000 ≤ n) (h2 : n ≤ 1000000000000000000) :
    Calls Tryd.prog 23 #[.int .i64 n, .int .i64 d] w fun e w' => e = .returned (.int .i64 (n / d)) ∧ w = w' := by
  have hq := quo_down n d hd
  obtain ⟨f1, f2, f3, f4, f5⟩ := tdiv_facts n d hd h1 h2
  have hd0 : (d == 0) = false := by simp; omega
  by_cases hm : n.tmod d < 0
  · rw [if_pos hm] at hq
    have hgt : n < n.tdiv d * d := by omega
    have Hq := Lib.hid hq
    clear hq f3 hm
    go_enter Tryd.func23, Tryd.ntmps23
    go_wp2
    go_ret
    refine ⟨ret_int ?_, rfl⟩
    show n.tdiv d - 1 = _
    rw [Hq.out]
    omega
  · rw [if_neg hm] at hq
    have hgt : n.tdiv d * d ≤ n := by omega
    have Hq := Lib.hid hq
    clear hq f3 hm
    go_enter Tryd.func23, Tryd.ntmps23
    go_wp2
    go_ret
    exact ⟨ret_int Hq.out, rfl⟩

/-- Rounded up. -/
def upD (n d : Int) : Int := -((-n) / d)

theorem div_bd (n d : Int) (hd : 0 < d) (h1 : -1000000000000000000 ≤ n) (h2 : n ≤ 1000000000000000000) : -1000000000000000000 ≤ n / d ∧ n / d ≤ 1000000000000000000 := by
  have e := Int.mul_ediv_add_emod n d
  have e1 := Int.emod_nonneg n (by omega : d ≠ 0)
  have e2 := Int.emod_lt_of_pos n hd
  constructor
  · exact (Int.le_ediv_iff_mul_le hd).2 (by have := Int.mul_le_mul_of_nonneg_left (show (1 : Int) ≤ d by omega) (show (0 : Int) ≤ 1000000000000000000 by omega); omega)
  · rcases Int.lt_or_le n 0 with h | h
    · have := Int.ediv_neg_of_neg_of_pos h hd; omega
    · have := Int.ediv_le_self d h; omega

set_option maxHeartbeats 400000 in
theorem ceil_c (n d : Int) (w : World) (hd : 0 < d) (hd2 : d ≤ 1000000000000000000) (h1 : -1000000000000000000 ≤ n) (h2 : n ≤ 1000000000000000000) :
    Calls Tryd.prog 24 #[.int .i64 n, .int .i64 d] w fun e w' => e = .returned (.int .i64 (upD n d)) ∧ w = w' := by
  have hb := div_bd (-n) d hd (by omega) (by omega)
  go_enter Tryd.func24, Tryd.ntmps24
  go_wp2_with (go_at_call 23; refine (floor_c _ _ _ hd hd2 (by omega) (by omega)).mono ?_; rintro e w' ⟨rfl, rfl⟩)
  go_ret
  exact ⟨rfl, rfl⟩

end Go.Proofs.YtcndphefomigeaaDoor
