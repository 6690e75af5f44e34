/- build and its reference: a site at its first hour. -/
import Derived.Test.YtokelpmngahnoaaUT2
import Derived.Test.YtokelpmngahnoaaUKB
import Derived.Test.YtokelpmngahnoaaUJK3
set_option linter.unusedVariables false
set_option linter.unusedSimpArgs false
set_option linter.unnecessarySimpa false
namespace Go.Proofs.Ytokelpmngahnoaa
open Go.RowKit
set_option maxRecDepth 100000
attribute [local go_sem] Oper.semAt_some
theorem SiteOk.of {c : Cs} {N : Nat} (h : CsOk c) (ha : ∀ i, i < N -> ∀ a ∈ c.af i, 0 <= a /\ a < i) : SiteOk c N := ⟨fun i => (h.ho i).1, fun i => (h.wa i).1, fun i => (h.fr i).1, ha⟩
section
variable {c : Cs} {N : Nat} (H : SiteOk c N)
include H
end
end Go.Proofs.Ytokelpmngahnoaa
/- build and its reference: whether a task can be begun. -/
namespace Go.Proofs.Ytokelpmngahnoaa
open Go.RowKit
set_option maxRecDepth 100000
attribute [local go_sem] Oper.semAt_some
theorem SiteOk.no {c : Cs} {N i h : Nat} (H : SiteOk c N) (hi : i < N) (hh : h <= 24 * c.nd) (hn : ¬ (c.fr i <= (h : Int) /\ (∀ k, k < i -> c.m k = c.m i -> c.enI N k <= (h : Int)) /\ ∀ a ∈ c.af i, c.enI N a.toNat + c.wa a.toNat <= (h : Int))) : decide (c.bgI N i <= (h : Int)) = false :=
 decide_eq_false (fun hb => hn ((H.ready hi (by unfold Cs.past; omega)).1 hb))
end Go.Proofs.Ytokelpmngahnoaa
/- build and its reference: an hour on the site. -/
namespace Go.Proofs.Ytokelpmngahnoaa
open Go.RowKit
set_option maxRecDepth 100000
attribute [local go_sem] Oper.semAt_some
theorem Own.opnN {α : Type} {enc : α -> List Value} {e : TypeId} {sz base n : Nat} {w : World} {v : Value} {l : List α} (h : Own enc e sz base w v l) (hn : l.length = n) (h0 : 0 < n) : ∃ g cap, v = .slice (some ⟨g, 0, none⟩) n cap := by
 subst hn
 exact Own.opn h h0
section
variable {c : Cs} {N h i : Nat}
end
end Go.Proofs.Ytokelpmngahnoaa
/- build and its reference: a site after all days. -/
namespace Go.Proofs.Ytokelpmngahnoaa
open Go.RowKit
set_option maxRecDepth 100000
attribute [local go_sem] Oper.semAt_some
end Go.Proofs.Ytokelpmngahnoaa
