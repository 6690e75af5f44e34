/- build: the chapter's examples, reckoned. -/
import Derived.Test.YtdgplekokdeafaaGreatPJ10
import Derived.Test.YtdgplekokdeafaaGreatPN5
import Derived.Test.YtdgplekokdeafaaGreatPK1
import Derived.Test.YtdgplekokdeafaaGreatPKC
import Derived.Test.YtdgplekokdeafaaGreatPN6
set_option linter.unusedVariables false
set_option linter.unusedSimpArgs false
set_option linter.unnecessarySimpa false
namespace Go.Proofs.YtdgplekokdeafaaGreat
open Go.RowKit
set_option maxRecDepth 100000
theorem Bk.sl {α : Type} (enc : α -> List Value) (sz : Nat) (l : List α) (c n : Nat) {w : World} {g : Nat} {t : TypeId} {cs : Array Value} (hb : Bk w g t cs) (hsz : ∀ x, (enc x).length = sz) (hcs : cs.toList = l.flatMap enc) (hn : l.length = n) (hl : n <= 1000) :
  Sl enc sz g (g + 1) w (.slice (some ⟨g, 0, none⟩) n c) l := by
 subst hn
 exact ⟨by unfold maxLen; omega, _, c, rfl, .inr ⟨g, 0, rfl, Nat.le_refl _, by omega, fun i x hi j u hj => by
   have h1 := flat_at' hsz l i x hi j u hj
   rw [← hcs] at h1
   rw [show 0 + i * sz + j = i * sz + j by omega, hb.cell]
   simpa using h1⟩⟩
attribute [local go_sem] Oper.semAt_some
end Go.Proofs.YtdgplekokdeafaaGreat
