/- build: what holds the road up: the chain. -/
import Derived.Test.YtokelpmngahnoaaZKA
import Derived.Test.YtokelpmngahnoaaZJ8
set_option linter.unusedVariables false
set_option linter.unusedSimpArgs false
set_option linter.unnecessarySimpa false
namespace Go.Proofs.Ytokelpmngahnoaa
open Go.RowKit
/-- The first number from k on, of n, of which f is so; k + n if there is none. -/
def fndN (f : Nat → Bool) : Nat → Nat → Nat
  | k, 0 => k
  | k, n + 1 => if f k = true then k else fndN f (k + 1) n
theorem fndN_bd (f : Nat → Bool) : ∀ (n k : Nat), k ≤ fndN f k n ∧ fndN f k n ≤ k + n
  | 0, k => ⟨Nat.le_refl _, Nat.le_refl _⟩
  | n + 1, k => by
    rw [fndN]
    have := fndN_bd f n (k + 1)
    split <;> omega
theorem fndN_no {f : Nat → Bool} : ∀ (n k j : Nat), k ≤ j → j < fndN f k n → f j = false
  | 0, k, j, h1, h2 => by rw [fndN] at h2; omega
  | n + 1, k, j, h1, h2 => by
    rw [fndN] at h2
    split at h2
    · omega
    · rename_i hf
      rcases Nat.eq_or_lt_of_le h1 with rfl | h3
      · simpa using hf
      · exact fndN_no n (k + 1) j h3 h2
theorem fndN_yes {f : Nat → Bool} : ∀ (n k : Nat), fndN f k n < k + n → f (fndN f k n) = true
  | 0, k, h => by rw [fndN] at h; omega
  | n + 1, k, h => by
    rw [fndN] at h ⊢
    split at h
    · rename_i hf
      rw [if_pos hf]
      exact hf
    · rename_i hf
      rw [if_neg hf]
      exact fndN_yes n (k + 1) (by omega)
theorem fndN_lt {f : Nat → Bool} {n k j : Nat} (h1 : k ≤ j) (h2 : j < k + n) (hf : f j = true) : fndN f k n ≤ j := by
  rcases Nat.lt_or_ge j (fndN f k n) with h | h
  · rw [fndN_no n k j h1 h] at hf; cases hf
  · exact h
/-- Scanning goes on: the first one is not below k. -/
theorem fndN_at {f : Nat → Bool} {n k : Nat} (h : ∀ j, j < k → f j = false) (hk : k < n) (hf : f k = true) : fndN f 0 n = k := by
  have h1 := fndN_lt (n := n) (Nat.zero_le k) (by omega) hf
  rcases Nat.eq_or_lt_of_le h1 with h2 | h2
  · exact h2
  · have := fndN_yes (f := f) n 0 (by omega)
    rw [h _ h2] at this
    cases this
section
variable (c : Cs) (N : Nat)
end
section
variable {c : Cs} {N : Nat} (H : SiteOk c N)
include H
end
end Go.Proofs.Ytokelpmngahnoaa
