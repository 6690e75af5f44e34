/- build and its reference: jobs that are the same. -/
import Derived.Test.YtokelpmngahnoaaVJK
import Derived.Test.YtokelpmngahnoaaVJ10
import Derived.Test.YtokelpmngahnoaaVW2
import Derived.Test.YtokelpmngahnoaaVKC
set_option linter.unusedVariables false
set_option linter.unusedSimpArgs false
set_option linter.unnecessarySimpa false
namespace Go.Proofs.Ytokelpmngahnoaa
open Go.RowKit
set_option maxRecDepth 100000
attribute [local go_sem] Oper.semAt_some
theorem sameT_at {n k : Nat} {a b : List Tsk} {z : Tsk} (h : mixT n a b) (hz : b[k]? = some z) : ∃ v, a[k]? = some ⟨z.m, z.ho, z.wa, z.fr, z.af, v⟩ := by
 have hk : k < a.length := by rw [h.1]; exact (List.getElem?_eq_some_iff.1 hz).1
 have e := List.getElem?_eq_getElem hk
 obtain ⟨h1, h2, h3, h4, h5⟩ := (h.2.1 k _ z e hz).1
 refine ⟨(a[k]).av, ?_⟩
 rw [e]
 congr 1
 rw [← h1, ← h2, ← h3, ← h4, ← h5]
theorem tk_same {n : Nat} {a b : List Tsk} (h : mixT n a b) (i : Nat) : sameT (tk a i) (tk b i) := by
 rcases Nat.lt_or_ge i b.length with hi | hi
 ·
  have hz := List.getElem?_eq_getElem hi
  obtain ⟨v, hv⟩ := sameT_at h hz
  rw [tk_get hv, tk_get hz]
  exact ⟨rfl, rfl, rfl, rfl, rfl⟩
 unfold tk
 rw [List.getD_eq_getElem?_getD, List.getD_eq_getElem?_getD, List.getElem?_eq_none hi, List.getElem?_eq_none (by rw [h.1]; exact hi)]
 exact ⟨rfl, rfl, rfl, rfl, rfl⟩
theorem caseOf_same {n : Nat} {a b : List Tsk} (h : mixT n a b) (w : Bool) (ms : List Mch) (dl : List Wea) : caseOf w ms a dl = caseOf w ms b dl := by
 have hs := tk_same h
 unfold caseOf
 congr 1
 · funext i; rw [(hs i).2.1]
 · funext i; rw [(hs i).2.2.1]
 · funext i; rw [(hs i).2.2.2.1]
 · funext i; rw [(hs i).1]
 · funext i; rw [(hs i).2.2.2.2]
theorem tsksErr_same (nm : Int) : ∀ (i : Nat) (a b : List Tsk), a.length = b.length -> (∀ (k : Nat) (x y : Tsk), a[k]? = some x -> b[k]? = some y -> sameT x y) -> tsksErr nm i a = tsksErr nm i b
 | _, [], [], _, _ => rfl
 | _, [], _ :: _, h, _ => by simp at h
 | _, _ :: _, [], h, _ => by simp at h
 | i, x :: a, y :: b, h, hs => by
  obtain ⟨h1, h2, h3, h4, h5⟩ := hs 0 x y rfl rfl
  have e : tskErr nm i x = tskErr nm i y := by unfold tskErr; rw [h1, h2, h3, h4, h5]
  rw [tsksErr, tsksErr, e, tsksErr_same nm (i + 1) a b (by simpa using h) (fun k u v hu hv => hs (k + 1) u v (by simpa using hu) (by simpa using hv))]
theorem bothErr_same {n : Nat} {a b : List Tsk} (h : mixT n a b) (ms : List Mch) (dl : List Wea) : bothErr ms a dl = bothErr ms b dl := by
 unfold bothErr jobErr
 rw [h.1, tsksErr_same _ 0 a b h.1 (fun k x y hx hy => (h.2.1 k x y hx hy).1)]
end Go.Proofs.Ytokelpmngahnoaa
