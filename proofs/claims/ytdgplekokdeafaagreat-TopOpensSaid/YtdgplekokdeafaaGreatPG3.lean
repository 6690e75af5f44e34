/- make of a row, in a region that draws. -/
import Derived.Test.YtdgplekokdeafaaGreatPMkB
import Derived.Test.YtdgplekokdeafaaGreatPJK
import Derived.Test.YtdgplekokdeafaaGreatPKC
import Derived.Test.YtdgplekokdeafaaGreatPK1
import Derived.Test.YtdgplekokdeafaaGreatPT2
set_option linter.unusedVariables false
set_option linter.unusedSimpArgs false
set_option linter.unnecessarySimpa false
namespace Go.Proofs.YtdgplekokdeafaaGreat
open Go.RowKit
set_option maxRecDepth 100000
attribute [local go_sem] Oper.semAt_some
theorem Own.low {α : Type} {enc : α -> List Value} {e : TypeId} {sz base base' : Nat} {w : World} {v : Value} {l : List α} (h : Own enc e sz base w v l) (hb : base' <= base) : Own enc e sz base' w v l := by
 obtain ⟨h0, h2⟩ := h
 refine ⟨h0, ?_⟩
 rcases h2 with h2 | ⟨g, cap, cur, e2, hb2, h3⟩
 · exact .inl h2
 · exact .inr ⟨g, cap, cur, e2, Nat.le_trans hb hb2, h3⟩
end Go.Proofs.YtdgplekokdeafaaGreat
/- build and its reference: a site at its first hour. -/
namespace Go.Proofs.YtdgplekokdeafaaGreat
open Go.RowKit
set_option maxRecDepth 100000
attribute [local go_sem] Oper.semAt_some
section
variable {c : Cs} {N : Nat} (H : SiteOk c N)
include H
end
end Go.Proofs.YtdgplekokdeafaaGreat
/- build and its reference: whether a task can be begun. -/
namespace Go.Proofs.YtdgplekokdeafaaGreat
open Go.RowKit
set_option maxRecDepth 100000
attribute [local go_sem] Oper.semAt_some
theorem SiteOk.no {c : Cs} {N i h : Nat} (H : SiteOk c N) (hi : i < N) (hh : h <= 24 * c.nd) (hn : ¬ (c.fr i <= (h : Int) /\ (∀ k, k < i -> c.m k = c.m i -> c.enI N k <= (h : Int)) /\ ∀ a ∈ c.af i, c.enI N a.toNat + c.wa a.toNat <= (h : Int))) : decide (c.bgI N i <= (h : Int)) = false :=
 decide_eq_false (fun hb => hn ((H.ready hi (by unfold Cs.past; omega)).1 hb))
end Go.Proofs.YtdgplekokdeafaaGreat
