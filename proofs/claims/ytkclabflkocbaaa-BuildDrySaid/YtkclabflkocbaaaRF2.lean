/- frost and its reference: square roots. -/
import Derived.Test.YtkclabflkocbaaaRF1
set_option linter.unusedVariables false
set_option linter.unusedSimpArgs false
set_option linter.unnecessarySimpa false
namespace Go.Proofs.Ytkclabflkocbaaa
open Go.RowKit
def isRoot (n r : Int) : Prop := 0 <= r /\ r * r <= n /\ n < (r + 1) * (r + 1)
theorem sq_lt {a b : Int} (h0 : 0 <= a) (h : a <= b) : a * a <= b * b := Int.mul_le_mul h h h0 (Int.le_trans h0 h)
theorem isRoot_uni {n r s : Int} (h : isRoot n r) (h' : isRoot n s) : r = s := by
 obtain ⟨a1, a2, a3⟩ := h
 obtain ⟨b1, b2, b3⟩ := h'
 rcases Int.lt_trichotomy r s with h | h | h
 · have := sq_lt (a := r + 1) (b := s) (by omega) (by omega); omega
 · exact h
 · have := sq_lt (a := s + 1) (b := r) (by omega) (by omega); omega
open Classical in
noncomputable def root (n : Int) : Int := if h : ∃ r, isRoot n r then Classical.choose h else 0
theorem root_eq {n r : Int} (h : isRoot n r) : root n = r := by
 have hx : ∃ r, isRoot n r := ⟨r, h⟩
 rw [root, dif_pos hx]
 exact isRoot_uni (Classical.choose_spec hx) h
theorem root_no {n : Int} (h : n <= 0) : root n = 0 := by
 by_cases h0 : n = 0
 · subst h0; exact root_eq ⟨by omega, by omega, by omega⟩
 rw [root, dif_neg]
 rintro ⟨r, a, b, c⟩
 have := Int.mul_nonneg a a
 omega
theorem mid_yes {m n : Int} (hm : 0 < m) (h : m <= n / m) : m * m <= n := (Int.le_ediv_iff_mul_le hm).1 h
theorem mid_no {m n : Int} (hm : 0 < m) (h : n / m < m) : n < m * m := by
 rcases Int.lt_or_le n (m * m) with h1 | h1
 · exact h1
 · have := (Int.le_ediv_iff_mul_le hm).2 h1; omega
theorem root_end {n lo hi : Int} (h1 : 1 <= lo) (h2 : lo * lo <= n) (h3 : n < hi * hi) (h4 : lo < hi) (h5 : ¬ 1 < hi - lo) : root n = lo := by
 obtain rfl : hi = lo + 1 := by omega
 exact root_eq ⟨by omega, h2, h3⟩
noncomputable def roof (n : Int) : Int := if root n * root n < n then root n + 1 else root n
set_option maxHeartbeats 1000000 in
theorem root_c (n : Int) (w : World) (hn : n <= 9223372036854775807) :
  Calls Try.prog 77 #[.int .i64 n] w (fun e w' => e = .returned (.int .i64 (root n)) /\ w = w') := by
 have F1 : Bun w [] w := Bun.nil _
 go_enter Try.func77, Try.ntmps77
 by_cases c2 : n <= 0
 ·
  have c2H := lhd c2
  have Hx3 := lhd (show ((root n : Int)) = 0 by exact root_no (by omega))
  go_wp2_with fail
  go_ret
  exact ⟨by rw [Hx3.out] <;> rfl, rfl⟩
 have c2H := lhd c2
 have c2a : decide (n <= 0) = false := dec_f c2
 go_wp2_with fail
 obtain ⟨HI4_, HI40⟩ : ∃ I : RelT, I = (fun t ds wr => ∃ (lo hi : Int), t 0 = .int .i64 n /\ t 3 = .int .i64 lo /\ t 4 = .int .i64 hi /\ 1 <= lo /\ lo < hi /\ hi <= 4294967296 /\ lo * lo <= n /\ n < hi * hi /\ ds = [] /\ wr = w) := ⟨_, rfl⟩
 have HI4 := lhd HI40
 clear HI40
 refine wp_loopS 26 rfl HI4_ (fun t wr => (intOf (t 4) - intOf (t 3)).toNat) ?atStart1 ?round1
 case round1 =>
  intro t ds wr hHid
  rw [HI4.out] at hHid
  obtain ⟨lo, hi, e0, e3, e4, hrel⟩ := hHid
  have e : ((List.range 26).map t).toArray = #[t 0, t 1, t 2, t 3, t 4, t 5, t 6, t 7, t 8, t 9, t 10, t 11, t 12, t 13, t 14, t 15, t 16, t 17, t 18, t 19, t 20, t 21, t 22, t 23, t 24, t 25] := rfl
  (try dsimp only at e)
  rw [e0, e3, e4] at e
  rw [e]
  simp only [e3, e4]
  clear e e0 e3 e4
  obtain ⟨h1, h2, h3, h4, h5, rfl, rfl⟩ := hrel
  have H4 := lhd h4
  have H5 := lhd h5
  clear h4 h5
  by_cases c8 : 1 < hi - lo
  ·
   have c8H := lhd c8
   by_cases c9 : lo + ((hi - lo) / 2) <= n / (lo + ((hi - lo) / 2))
   ·
    have c9H := lhd c9
    go_wp2_with fail
    (first | refine ⟨rfl, ?_, ?_⟩ | refine ⟨?_, ?_⟩)
    · rw [HI4.out]; exact ⟨lo + ((hi - lo) / 2), hi, rfl, rfl, rfl, (by omega), (by omega), (by omega), (mid_yes (by omega) c9), H5.out, (by first | rfl | simp), rfl⟩
    · simp [slot, intOf]; omega
   have c9H := lhd c9
   have c9a : decide (lo + ((hi - lo) / 2) <= n / (lo + ((hi - lo) / 2))) = false := dec_f c9
   go_wp2_with fail
   (first | refine ⟨rfl, ?_, ?_⟩ | refine ⟨?_, ?_⟩)
   · rw [HI4.out]; exact ⟨lo, lo + ((hi - lo) / 2), rfl, rfl, rfl, (by omega), (by omega), (by omega), H4.out, (mid_no (by omega) c9), (by first | rfl | simp), rfl⟩
   · simp [slot, intOf]; omega
  have c8H := lhd c8
  have c8a : decide (1 < hi - lo) = false := dec_f c8
  have Hx10 := lhd (show ((root n : Int)) = lo by exact root_end h1 H4.out H5.out h2 (by omega))
  go_wp2_with fail
  go_ret
  exact ⟨by rw [Hx10.out] <;> rfl, rfl⟩
 case atStart1 =>
  rw [HI4.out]
  exact ⟨1, 4294967296, rfl, rfl, rfl, (by omega), (by omega), (by omega), (by omega), (by omega), rfl, rfl⟩
theorem root_ex : ∀ (k : Nat) (n : Int), 0 <= n -> n < (k : Int) * k -> ∃ r : Int, isRoot n r /\ r < k := by
 intro k
 induction k with
 | zero => intro n h h'; simp at h'; omega
 | succ k ih =>
  intro n h h'
  by_cases hk : n < (k : Int) * k
  · obtain ⟨r, hr, hl⟩ := ih n h hk; exact ⟨r, hr, by omega⟩
  · exact ⟨k, ⟨by omega, by omega, by simpa using h'⟩, by omega⟩
theorem root_is {n : Int} (h : 0 <= n) : isRoot n (root n) := by
 have hx : ∃ r, isRoot n r := by
  obtain ⟨r, hr, _⟩ := root_ex (n.toNat + 1) n h (by
   have e : ((n.toNat + 1 : Nat) : Int) = n + 1 := by omega
   rw [e]
   have := Int.mul_nonneg h h
   have e2 : (n + 1) * (n + 1) = n * n + (2 * n + 1) := by rw [Int.add_mul, Int.mul_add]; omega
   omega)
  exact ⟨r, hr⟩
 rw [root, dif_pos hx]
 exact Classical.choose_spec hx
theorem root_bd {n : Int} (h : n <= 9223372036854775807) : 0 <= root n /\ root n <= 3037000499 := by
 rcases Int.lt_or_le 0 n with h0 | h0
 ·
  obtain ⟨a, b, c⟩ := root_is (n := n) (by omega)
  refine ⟨a, ?_⟩
  rcases Int.lt_or_le 3037000499 (root n) with h1 | h1
  · have := sq_lt (a := 3037000500) (b := root n) (by omega) (by omega); omega
  · exact h1
 · rw [root_no h0]; omega
theorem rootUp_c (n : Int) (w : World) (hn : n <= 9223372036854775807) :
  Calls Try.prog 78 #[.int .i64 n] w (fun e w' => e = .returned (.int .i64 (roof n)) /\ w = w') := by
 have hrr : 0 <= root n /\ root n <= 3037000499 := root_bd hn
 have hq : 0 <= root n * root n := Int.mul_nonneg hrr.1 hrr.1
 have hq2 : root n * root n <= 9223372036854775807 := by have := sq_lt (a := root n) (b := 3037000499) hrr.1 hrr.2; omega
 have F1 : Bun w [] w := Bun.nil _
 go_enter Try.func78, Try.ntmps78
 go_wp2_with fail
 refine (root_c _ _ (by omega)).mono ?_
 rintro e _ ⟨rfl, rfl⟩
 by_cases c2 : (root n) * (root n) < n
 ·
  have c2H := lhd c2
  have Hx3 := lhd (show ((roof n : Int)) = root n + 1 by unfold roof; split <;> omega)
  go_wp2_with fail
  go_ret
  exact ⟨by rw [Hx3.out] <;> rfl, rfl⟩
 have c2H := lhd c2
 have c2a : decide ((root n) * (root n) < n) = false := dec_f c2
 have Hx4 := lhd (show ((roof n : Int)) = root n by unfold roof; split <;> omega)
 go_wp2_with fail
 go_ret
 exact ⟨by rw [Hx4.out] <;> rfl, rfl⟩
end Go.Proofs.Ytkclabflkocbaaa
