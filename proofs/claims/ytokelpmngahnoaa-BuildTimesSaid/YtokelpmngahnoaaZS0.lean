/- build: a road that is built hour by hour, and the plan: what is so after some hours. -/
import Derived.Test.YtokelpmngahnoaaZP1
set_option linter.unusedVariables false
set_option linter.unusedSimpArgs false
set_option linter.unnecessarySimpa false
namespace Go.Proofs.Ytokelpmngahnoaa
open Go.RowKit
section
variable (c : Cs) (N : Nat)
end
/-- What the site's walk asks of a case. -/
structure SiteOk (c : Cs) (N : Nat) : Prop where
  ho : ∀ i, 0 ≤ c.ho i
  wa : ∀ i, 0 ≤ c.wa i
  fr : ∀ i, 0 ≤ c.fr i
  af : ∀ i, i < N → ∀ a ∈ c.af i, 0 ≤ a ∧ a < i
section
variable {c : Cs} {N : Nat} (H : SiteOk c N)
include H
end
/-! ### rows of which the first i are an hour further -/
section
variable {α : Type}
def mixF (F G : Nat → α) (N i : Nat) : List α := (List.range N).map fun k => if k < i then G k else F k
theorem mixF_len (F G : Nat → α) (N i : Nat) : (mixF F G N i).length = N := by simp [mixF]
theorem mixF_get {F G : Nat → α} {N i k : Nat} (hk : k < N) : (mixF F G N i)[k]? = some (if k < i then G k else F k) := by simp [mixF, hk]
theorem mixF_zero (F G : Nat → α) (N : Nat) : mixF F G N 0 = (List.range N).map F := by simp [mixF]
theorem mixF_all (F G : Nat → α) (N : Nat) : mixF F G N N = (List.range N).map G := by
  unfold mixF
  exact List.map_congr_left (fun k hk => by rw [if_pos (by simpa using hk)])
theorem mixF_set {F G : Nat → α} {N i : Nat} {x : α} (h : x = G i) : (mixF F G N i).set i x = mixF F G N (i + 1) := by
  subst h
  refine List.ext_getElem? fun k => ?_
  by_cases hk : k < N
  · rw [List.getElem?_set, mixF_get hk, mixF_get hk, mixF_len]
    by_cases h1 : i = k
    · subst h1; rw [if_pos rfl, if_pos hk, if_pos (by omega)]
    · rw [if_neg h1]
      by_cases h2 : k < i
      · rw [if_pos h2, if_pos (by omega)]
      · rw [if_neg h2, if_neg (by omega)]
  · rw [List.getElem?_eq_none (by rw [List.length_set, mixF_len]; omega), List.getElem?_eq_none (by rw [mixF_len]; omega)]
end
end Go.Proofs.Ytokelpmngahnoaa
