/- build: the chapter's examples, reckoned. -/
import Derived.Test.YtkclabflkocbaaaRJ10
import Derived.Test.YtkclabflkocbaaaRN5
import Derived.Test.YtkclabflkocbaaaRK1
set_option linter.unusedVariables false
set_option linter.unusedSimpArgs false
set_option linter.unnecessarySimpa false
namespace Go.Proofs.Ytkclabflkocbaaa
open Go.RowKit
set_option maxRecDepth 100000
theorem Bk.sl {α : Type} (enc : α -> List Value) (sz : Nat) (l : List α) (c n : Nat) {w : World} {g : Nat} {t : TypeId} {cs : Array Value} (hb : Bk w g t cs) (hsz : ∀ x, (enc x).length = sz) (hcs : cs.toList = l.flatMap enc) (hn : l.length = n) (hl : n <= 1000) :
  Sl enc sz g (g + 1) w (.slice (some ⟨g, 0, none⟩) n c) l := by
 subst hn
 exact ⟨by unfold maxLen; omega, _, c, rfl, .inr ⟨g, 0, rfl, Nat.le_refl _, by omega, fun i x hi j u hj => by
   have h1 := flat_at' hsz l i x hi j u hj
   rw [← hcs] at h1
   rw [show 0 + i * sz + j = i * sz + j by omega, hb.cell]
   simpa using h1⟩⟩
def jobM : List Mch := [⟨0, 300, 10⟩, ⟨50, 200, 24⟩]
def jobT (av : Value) : List Tsk := [⟨0, ⟨5, 12⟩, ⟨0, 0⟩, ⟨0, 0⟩, [], .slice none 0 0⟩, ⟨1, ⟨10, 10⟩, ⟨24, 24⟩, ⟨0, 6⟩, [0], av⟩, ⟨0, ⟨4, 4⟩, ⟨0, 0⟩, ⟨30, 30⟩, [], .slice none 0 0⟩]
def weekD : List Wea := [⟨⟨100, 100⟩, ⟨0, 0⟩, 0, false⟩, ⟨⟨100, 100⟩, ⟨0, 0⟩, 0, false⟩, ⟨⟨250, 250⟩, ⟨0, 0⟩, 0, false⟩, ⟨⟨150, 210⟩, ⟨0, 0⟩, 0, false⟩]
def netL : List Lg := [⟨0, 1, 10, 1, 4⟩, ⟨1, 2, 10, 1, 9⟩, ⟨0, 2, 30, 1, 9⟩, ⟨0, 2, 5, 3, 2⟩]
def awT : List Tim := [⟨⟨0, 0⟩, ⟨5, 26⟩⟩, ⟨⟨5, 26⟩, ⟨15, 36⟩⟩, ⟨⟨30, 30⟩, ⟨34, 34⟩⟩]
theorem aw_both (av : Value) : bothErr jobM (jobT av) weekD = 0 := by kernel_rfl
theorem aw_tims (av : Value) : timsOf jobM (jobT av) weekD = awT := by kernel_rfl
theorem aw_opn (av : Value) : opnOf jobM (jobT av) weekD = ⟨39, 60⟩ := by kernel_rfl
def awP : FM := [some (5, 1), some (10, 1), some (0, 0)]
def awS : FM := [some (20, 2), some (10, 1), some (0, 0)]
theorem aw_net : netErr ((3 : Nat) : Int) netL = 0 := by kernel_rfl
theorem aw_dp : dst netL useP 5 (far0 3 2) = some awP := by kernel_rfl
theorem aw_ds : dst netL useS 5 (far0 3 2) = some awS := by kernel_rfl
theorem aw_pth : pth netL awS 2 5 0 = some [0, 1] := by kernel_rfl
end Go.Proofs.Ytkclabflkocbaaa
