/- frost: contracts as the laws use them. -/
import Derived.Test.YtlefmbjipdlcfaaMF31
import Derived.Test.YtlefmbjipdlcfaaMKF1
import Derived.Test.YtlefmbjipdlcfaaMKF2
import Derived.Test.YtlefmbjipdlcfaaMK1
import Derived.Test.YtlefmbjipdlcfaaMF22
import Derived.Test.YtlefmbjipdlcfaaMF40
import Derived.Test.YtlefmbjipdlcfaaMKA
set_option linter.unusedVariables false
set_option linter.unusedSimpArgs false
set_option linter.unnecessarySimpa false
namespace Go.Proofs.Ytlefmbjipdlcfaa
open Go.RowKit
set_option maxRecDepth 100000
theorem Own.slC {α : Type} {enc : α -> List Value} {e : TypeId} {sz base : Nat} {w : World} {v : Value} {l : List α} (h : Own enc e sz base w v l) (hsz : ∀ x, (enc x).length = sz) : ∃ (a : Option Addr) (c : Nat), v = .slice a l.length c /\ l.length <= c /\ Sl enc sz base w.heap.size w (.slice a l.length c) l := by
 have h1 := h.sl hsz
 obtain ⟨a, c, rfl⟩ := h1.any
 refine ⟨a, c, rfl, ?_, h1⟩
 obtain ⟨h0, h2⟩ := h
 rcases h2 with ⟨e2, hn⟩ | ⟨g, cap, cur, e2, hb, hh, hnc, hcm, hcs, htk⟩
 ·
  injection e2 with e3 e4 e5
  omega
 injection e2 with e3 e4 e5
 omega
end Go.Proofs.Ytlefmbjipdlcfaa
/- the reference of frost: days one after the other. -/
namespace Go.Proofs.Ytlefmbjipdlcfaa
open Go.RowKit
set_option maxRecDepth 100000
attribute [local go_sem] Oper.semAt_some
end Go.Proofs.Ytlefmbjipdlcfaa
/- the reference of frost: bearing. -/
namespace Go.Proofs.Ytlefmbjipdlcfaa
open Go.RowKit
set_option maxRecDepth 100000
end Go.Proofs.Ytlefmbjipdlcfaa
/- frost: water that freezes through. -/
namespace Go.Proofs.Ytlefmbjipdlcfaa
open Go.RowKit
set_option maxRecDepth 100000
open Go.Shelf
theorem Own.weak {α : Type} {enc : α -> List Value} {e : TypeId} {sz base b0 : Nat} {w : World} {v : Value} {l : List α} (h : Own enc e sz base w v l) (hb : b0 <= base) : Own enc e sz b0 w v l := by
 obtain ⟨h1, h2⟩ := h
 refine ⟨h1, ?_⟩
 rcases h2 with h2 | ⟨g, cap, cur, hv, hg, h3⟩
 · exact .inl h2
 · exact .inr ⟨g, cap, cur, hv, Nat.le_trans hb hg, h3⟩
end Go.Proofs.Ytlefmbjipdlcfaa
/- frost: days one after the other. -/
namespace Go.Proofs.Ytlefmbjipdlcfaa
open Go.RowKit
set_option maxRecDepth 100000
end Go.Proofs.Ytlefmbjipdlcfaa
/- frost: Run; what is too big. -/
namespace Go.Proofs.Ytlefmbjipdlcfaa
open Go.RowKit
set_option maxRecDepth 100000
end Go.Proofs.Ytlefmbjipdlcfaa
