/- the kit of build: jobs within jobs. -/
import Derived.Test.YtokelpmngahnoaaVJK3
import Derived.Test.YtokelpmngahnoaaVKA
import Derived.Test.YtokelpmngahnoaaVK1
import Derived.Test.YtokelpmngahnoaaVJ8
set_option linter.unusedVariables false
set_option linter.unusedSimpArgs false
set_option linter.unnecessarySimpa false
namespace Go.Proofs.Ytokelpmngahnoaa
open Go.RowKit
set_option maxRecDepth 100000
attribute [local go_sem] Oper.semAt_some
theorem tsksErr_ea {nm : Int} : ∀ {l : List Tsk} {i : Nat}, tsksErr nm i l = 0 -> ∀ (k : Nat) (t : Tsk), l[k]? = some t -> tskErr nm ((i + k : Nat) : Int) t = 0
 | [], _, _, k, t, hk => by simp at hk
 | y :: l, i, h, k, t, hk => by
  rw [tsksErr] at h
  split at h
  · contradiction
  rename_i h1
  cases k with
  | zero =>
   simp at hk
   subst hk
   exact Classical.not_not.1 h1
  | succ k =>
   have := tsksErr_ea h k t (by simpa using hk)
   rwa [show i + (k + 1) = i + 1 + k by omega]
theorem ho_le0 {ms : List Mch} {ts : List Tsk} {k : Nat} {z : Tsk} (h2 : jobErr ms ts = 0) (hz : ts[k]? = some z) : z.ho.hi <= 2000 := by
 unfold jobErr at h2
 split at h2
 · cases h2
 split at h2
 · contradiction
 split at h2
 · cases h2
 have h3 := tsksErr_ea h2 k z hz
 unfold tskErr at h3
 split at h3
 · cases h3
 split at h3
 · contradiction
 rename_i h5 h6
 exact (spanErr_ok (Classical.not_not.1 h6)).2.2
end Go.Proofs.Ytokelpmngahnoaa
