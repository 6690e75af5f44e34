/- The kit's spans around a number; a number taken into bounds. -/
import Derived.Test.YtfifldbinnkdmaaKS
import Derived.Test.YtfifldbinnkdmaaMem
import Derived.Lib.MinMax
set_option linter.unusedVariables false
set_option linter.unusedSimpArgs false
set_option linter.unnecessarySimpa false
namespace Go.Proofs.Ytfifldbinnkdmaa
open Go.RowKit
set_option maxRecDepth 100000

theorem wrap_c (x n : Int) (w : World) (hx : 0 ≤ x ∧ x ≤ 1000000000000) (hn : 2 ≤ n ∧ n ≤ 1000000000000) : Calls Try.prog 48 #[.int .i64 x, .int .i64 n] w (Ret (.int .i64 (x % n)) w) := by
  have h1 : Int.tmod x n = x % n := Int.tmod_eq_emod_of_nonneg hx.1
  have h2 := Int.emod_lt_of_pos x (show 0 < n by omega)
  have h3 := Int.emod_nonneg x (show n ≠ 0 by omega)
  have h4 : Int.tmod (x % n + n) n = x % n := by
    rw [Int.tmod_eq_emod_of_nonneg (by omega), Int.add_emod_right, Int.emod_emod_of_dvd _ (Int.dvd_refl n)]
  have e0 : (n == 0) = false := by simp; omega
  go_enter Try.func48, Try.ntmps48
  go_wp2_with fail
  go_ret
  exact ⟨rfl, gb_refl _ _⟩

/-- A span around n, at most so wide on both sides. -/
def aroundR (n wide : Int) (v : Value) (_ : World) : Prop := ∃ a c, v = .agg #[.int .i64 a, .int .i64 c] ∧ (0 ≤ a ∧ a ≤ n) ∧ n ≤ c ∧ c ≤ n + wide
set_option maxHeartbeats 1000000 in
theorem around_c (b : Nat) (n wide : Int) (w : World) (hs : SeedAt w b) (h1 : 0 ≤ n) (h2 : n ≤ 1000000000000) (h3 : 0 ≤ wide) (h4 : wide ≤ 1000000) :
    Calls Try.prog 69 #[.pointer (some ⟨b, 0, none⟩), .int .i64 n, .int .i64 wide] w (GenV (aroundR n wide) b w) := by
  have hbl := hs.lt
  have hR := Bk.new w 40 #[.int .i64 0, .int .i64 0]
  have hs0 := hs.alloc (.cells #[.int .i64 0, .int .i64 0] 40)
  have hg0 := gb_alloc (gb_refl w (some b)) (.cells #[.int .i64 0, .int .i64 0] 40)
  go_enter Try.func69, Try.ntmps69
  go_wp2_with fail
  refine (below_c b (wide + 1) _ hs0 (by omega) (by omega)).mono ?_
  rintro e w1 ⟨r1, rfl, ⟨hr1, hr2⟩, hs1, hg1⟩
  have hz1 := hg1.size
  (try simp at hz1)
  have hR1 := hR.gb hg1 (by simp; omega)
  have hG1 := gb_trans hg0 hg1
  clear hs0 hg0 hg1 hR
  go_wp2_with fail
  refine (of_c b _ (hs1.alloc _) w1.heap.size 0 2 2 (fun i => [0, r1].getD i 0) (by decide) (by decide) (by omega) (fun i hi => by rcases i with _ | _ | i <;> first | (simp [go_sem]; done) | omega)).mono ?_
  rintro e w2 ⟨o1, rfl, ho1, hs2, hg2⟩
  have hz2 := hg2.size
  (try simp at hz2)
  have ho1' : 0 ≤ o1 ∧ o1 ≤ wide := by
    obtain ⟨i, hi, rfl⟩ := ho1
    rcases i with _ | _ | i
    · show (0 : Int) ≤ 0 ∧ (0 : Int) ≤ wide; omega
    · show 0 ≤ r1 ∧ r1 ≤ wide; omega
    · omega
  have hR2 := (hR1.alloc (.cells #[.int .i64 0, .int .i64 r1] 3)).gb hg2 (by simp; omega)
  have hG2 := gb_trans (gb_alloc hG1 (.cells #[.int .i64 0, .int .i64 r1] 3)) hg2
  clear ho1 hR1 hs1 hg2 hG1
  go_wp2_with fail
  refine (below_c b (wide + 1) _ hs2 (by omega) (by omega)).mono ?_
  rintro e w3 ⟨r2, rfl, ⟨hr3, hr4⟩, hs3, hg3⟩
  have hz3 := hg3.size
  (try simp at hz3)
  have hR3 := hR2.gb hg3 (by simp; omega)
  have hG3 := gb_trans hG2 hg3
  clear hs2 hg3 hR2 hG2
  go_wp2_with fail
  refine (of_c b _ (hs3.alloc _) w3.heap.size 0 2 2 (fun i => [0, r2].getD i 0) (by decide) (by decide) (by omega) (fun i hi => by rcases i with _ | _ | i <;> first | (simp [go_sem]; done) | omega)).mono ?_
  rintro e w4 ⟨o2, rfl, ho2, hs4, hg4⟩
  have ho2' : 0 ≤ o2 ∧ o2 ≤ wide := by
    obtain ⟨i, hi, rfl⟩ := ho2
    rcases i with _ | _ | i
    · show (0 : Int) ≤ 0 ∧ (0 : Int) ≤ wide; omega
    · show 0 ≤ r2 ∧ r2 ≤ wide; omega
    · omega
  have hz4 := hg4.size
  (try simp at hz4)
  have hR4 := (hR3.alloc (.cells #[.int .i64 0, .int .i64 r2] 3)).gb hg4 (by simp; omega)
  have hG4 := gb_trans (gb_alloc hG3 (.cells #[.int .i64 0, .int .i64 r2] 3)) hg4
  have q := hR4.c2
  clear ho2 hR3 hs3 hg4 hG3
  go_wp2_with fail
  have hF := (hR4.set 0 (.int .i64 (max 0 (n - o1)))).set 1 (.int .i64 (n + o2))
  have hc := hF.c2
  exact bodyPost_ret (v := .agg #[.int .i64 (max 0 (n - o1)), .int .i64 (n + o2)]) (by simp [results, Try.results69, go_sem, hc]) rfl ⟨_, rfl, ⟨_, _, rfl, by omega, by omega, by omega⟩, (hs4.far (by dsimp only; omega) _).far (by dsimp only; omega) _, gb_setCell (gb_setCell hG4 (.inr (by simp)) _) (.inr (by simp)) _⟩
end Go.Proofs.Ytfifldbinnkdmaa
