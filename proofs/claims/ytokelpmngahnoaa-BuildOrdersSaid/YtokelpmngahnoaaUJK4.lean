/- the kit of build: jobs within jobs. -/
import Derived.Test.YtokelpmngahnoaaUJK3
import Derived.Test.YtokelpmngahnoaaUKA
import Derived.Test.YtokelpmngahnoaaUK1
import Derived.Test.YtokelpmngahnoaaUJ8
set_option linter.unusedVariables false
set_option linter.unusedSimpArgs false
set_option linter.unnecessarySimpa false
namespace Go.Proofs.Ytokelpmngahnoaa
open Go.RowKit
set_option maxRecDepth 100000
attribute [local go_sem] Oper.semAt_some
theorem Sl.n {α : Type} {enc : α -> List Value} {sz lo hi n c : Nat} {a : Option Addr} {w : World} {l : List α} (h : Sl enc sz lo hi w (.slice a n c) l) (hn : n = l.length) : Sl enc sz lo hi w (.slice a l.length c) l := hn ▸ h
theorem subS.refl {s : Sp} (h : s.lo <= s.hi) : subS s s := ⟨Int.le_refl _, h, Int.le_refl _⟩
theorem subTs.set {lt ts : List Tsk} {k : Nat} {z y : Tsk} (h : subTs lt ts) (hz : lt[k]? = some z) (h1 : y.m = z.m) (h2 : subS y.ho z.ho) (h3 : subS y.wa z.wa) (h4 : subS y.fr z.fr) (h5 : y.af = z.af) : subTs (lt.set k y) ts := by
 have hk := (List.getElem?_eq_some_iff.1 hz).1
 refine ⟨by rw [List.length_set]; exact h.1, fun i x t hx ht => ?_⟩
 rw [List.getElem?_set] at hx
 by_cases e : k = i
 ·
  subst e
  rw [if_pos rfl, if_pos hk] at hx
  injection hx with hx
  subst hx
  obtain ⟨a1, a2, a3, a4, a5⟩ := h.2 k z t hz ht
  unfold subS at *
  exact ⟨by rw [h1]; exact a1, by unfold subS; omega, by unfold subS; omega, by unfold subS; omega, by rw [h5]; exact a5⟩
 rw [if_neg e] at hx
 exact h.2 i x t hx ht
end Go.Proofs.Ytokelpmngahnoaa
