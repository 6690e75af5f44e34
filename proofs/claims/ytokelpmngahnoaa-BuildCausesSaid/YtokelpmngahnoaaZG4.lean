/- build: a task that takes some hours more. -/
import Derived.Test.YtokelpmngahnoaaZT4
import Derived.Test.YtokelpmngahnoaaZKA
set_option linter.unusedVariables false
set_option linter.unusedSimpArgs false
set_option linter.unnecessarySimpa false
namespace Go.Proofs.Ytokelpmngahnoaa
open Go.RowKit
theorem tsksErr_all {nm : Int} : ∀ {l : List Tsk} {i : Nat}, (∀ (k : Nat) (t : Tsk), l[k]? = some t → tskErr nm ((i + k : Nat) : Int) t = 0) → tsksErr nm i l = 0
  | [], _, _ => rfl
  | y :: l, i, h => by
    have h0 := h 0 y rfl
    rw [Nat.add_zero] at h0
    rw [tsksErr, if_neg (not_not_intro h0)]
    refine tsksErr_all (l := l) (i := i + 1) (fun k t hk => ?_)
    have := h (k + 1) t (by simpa using hk)
    rwa [show i + (k + 1) = i + 1 + k by omega] at this
theorem tsksErr_each {nm : Int} : ∀ {l : List Tsk} {i : Nat}, tsksErr nm i l = 0 → ∀ (k : Nat) (t : Tsk), l[k]? = some t → tskErr nm ((i + k : Nat) : Int) t = 0
  | [], _, _, k, t, hk => by simp at hk
  | y :: l, i, h, k, t, hk => by
    rw [tsksErr] at h
    split at h
    · contradiction
    · rename_i h1
      cases k with
      | zero =>
        simp at hk
        subst hk
        exact Classical.not_not.1 h1
      | succ k =>
        have := tsksErr_each h k t (by simpa using hk)
        rwa [show i + (k + 1) = i + 1 + k by omega]
/-- A task whose greatest number of hours is d more. -/
def moreT (t : Tsk) (d : Int) : Tsk := ⟨t.m, ⟨t.ho.lo, t.ho.hi + d⟩, t.wa, t.fr, t.af, t.av⟩
theorem tskErr_more {nm i d : Int} {t : Tsk} (h : tskErr nm i t = 0) (hd : 0 ≤ d) (hm : t.ho.hi + d ≤ 2000) : tskErr nm i (moreT t d) = 0 := by
  have hok := tskOk h
  have h1 := hok.ho
  unfold tskErr at h ⊢
  unfold moreT
  simp only
  split at h
  · cases h
  · split at h
    · contradiction
    · split at h
      · contradiction
      · split at h
        · contradiction
        · rename_i a1 a2 a3 a4
          have e : spanErr t.ho.lo (t.ho.hi + d) 0 2000 = 0 := by
            unfold spanErr
            rw [if_neg (by omega), if_neg (by omega)]
          rw [if_neg a1, e, if_neg (by simp), if_neg a3, if_neg a4]
          exact h
theorem more_err {ms : List Mch} {ts : List Tsk} {dl : List Wea} {k : Nat} {z : Tsk} {d : Int} (h : bothErr ms ts dl = 0) (hz : ts[k]? = some z) (hd : 0 ≤ d) (hm : z.ho.hi + d ≤ 2000) : bothErr ms (ts.set k (moreT z d)) dl = 0 := by
  unfold bothErr at h ⊢
  split at h
  · contradiction
  · rename_i h1
    have h2 := Classical.not_not.1 h1
    have e : jobErr ms (ts.set k (moreT z d)) = 0 := by
      unfold jobErr at h2 ⊢
      rw [List.length_set]
      split at h2
      · cases h2
      · split at h2
        · contradiction
        · split at h2
          · cases h2
          · rename_i a1 a2 a3
            rw [if_neg a1, if_neg a2, if_neg a3]
            refine tsksErr_all (fun q t hq => ?_)
            rw [List.getElem?_set] at hq
            split at hq
            · rename_i e
              subst e
              split at hq
              · obtain rfl := Option.some.inj hq
                exact tskErr_more (tsksErr_each h2 k z hz) hd hm
              · cases hq
            · exact tsksErr_each h2 q t hq
    rw [if_neg (not_not_intro e)]
    exact h
theorem tk_set {ts : List Tsk} {k : Nat} {z : Tsk} {d : Int} (hz : ts[k]? = some z) (i : Nat) : tk (ts.set k (moreT z d)) i = if i = k then moreT z d else tk ts i := by
  have hk : k < ts.length := (List.getElem?_eq_some_iff.1 hz).1
  unfold tk
  rw [List.getD_eq_getElem?_getD, List.getD_eq_getElem?_getD, List.getElem?_set]
  by_cases h : i = k
  · subst h
    rw [if_pos rfl, if_pos rfl, if_pos hk]
    rfl
  · rw [if_neg h, if_neg (fun e => h e.symm)]
/-- With hours more of a task the worst case is no earlier. -/
theorem more_le {ms : List Mch} {ts : List Tsk} {dl : List Wea} {k : Nat} {z : Tsk} {d e : Int} (h : JobOk ms ts) (hz : ts[k]? = some z) (hd : 0 ≤ d) (hde : d ≤ e) : CsLe (caseOf true ms (ts.set k (moreT z d)) dl) (caseOf true ms (ts.set k (moreT z e)) dl) := by
  have hk := fun i => tk_ok h i
  have hzk := tk_get hz
  have e1 := fun i => tk_set (d := d) hz i
  have e2 := fun i => tk_set (d := e) hz i
  refine ⟨rfl, fun i => ?_, fun i => ?_, fun i => ?_, fun i => ?_, fun i => ?_, fun i a ha => ?_, fun _ => rfl, fun m x hx => hx⟩
  · show 0 ≤ (tk _ i).ho.hi ∧ (tk _ i).ho.hi ≤ (tk _ i).ho.hi
    rw [e1, e2]
    have := hk i
    by_cases hi : i = k
    · subst hi
      rw [if_pos rfl, if_pos rfl]
      rw [hzk] at this
      unfold moreT
      simp only
      omega
    · rw [if_neg hi, if_neg hi]
      omega
  · show 0 ≤ (tk _ i).wa.hi ∧ (tk _ i).wa.hi ≤ (tk _ i).wa.hi
    rw [e1, e2]
    have := hk i
    by_cases hi : i = k
    · subst hi
      rw [if_pos rfl, if_pos rfl]
      rw [hzk] at this
      exact ⟨by show 0 ≤ z.wa.hi; omega, Int.le_refl _⟩
    · rw [if_neg hi, if_neg hi]
      omega
  · show 0 ≤ (tk _ i).fr.hi ∧ (tk _ i).fr.hi ≤ (tk _ i).fr.hi
    rw [e1, e2]
    have := hk i
    by_cases hi : i = k
    · subst hi
      rw [if_pos rfl, if_pos rfl]
      rw [hzk] at this
      exact ⟨by show 0 ≤ z.fr.hi; omega, Int.le_refl _⟩
    · rw [if_neg hi, if_neg hi]
      omega
  · show (tk _ i).m = (tk _ i).m
    rw [e1, e2]
    split <;> rfl
  · show (tk _ i).af = (tk _ i).af
    rw [e1, e2]
    split <;> rfl
  · have ha' : a ∈ (tk (ts.set k (moreT z d)) i).af := ha
    rw [e1] at ha'
    by_cases hi : i = k
    · subst hi
      rw [if_pos rfl] at ha'
      refine tk_aok h i a ?_
      rw [hzk]
      exact ha'
    · rw [if_neg hi] at ha'
      exact tk_aok h i a ha'
theorem more_zero {ts : List Tsk} {k : Nat} {z : Tsk} (hz : ts[k]? = some z) : ts.set k (moreT z 0) = ts := by
  refine List.ext_getElem? fun i => ?_
  rw [List.getElem?_set]
  by_cases h : k = i
  · subst h
    have hk : k < ts.length := (List.getElem?_eq_some_iff.1 hz).1
    rw [if_pos rfl, if_pos hk, hz]
    have e : moreT z 0 = z := by unfold moreT; rw [Int.add_zero]
    rw [e]
  · rw [if_neg h]
theorem mixT_set {n k : Nat} {a b : List Tsk} {x z : Tsk} {d : Int} (h : mixT n a b) (hx : a[k]? = some x) (hz : b[k]? = some z) (hn : b.length ≤ n) : mixT n (a.set k (moreT x d)) (b.set k (moreT z d)) := by
  obtain ⟨h1, h2, h3⟩ := h
  have hs := (h2 k x z hx hz).1
  have hk : k < b.length := (List.getElem?_eq_some_iff.1 hz).1
  refine ⟨by rw [List.length_set, List.length_set, h1], fun i u v hu hv => ?_, fun t ht => ?_⟩
  · rw [List.getElem?_set] at hu hv
    by_cases e : k = i
    · subst e
      rw [if_pos rfl, if_pos (by omega)] at hu
      rw [if_pos rfl, if_pos hk] at hv
      obtain rfl := Option.some.inj hu
      obtain rfl := Option.some.inj hv
      obtain ⟨s1, s2, s3, s4, s5⟩ := hs
      refine ⟨⟨s1, ?_, s3, s4, s5⟩, fun hni => by omega⟩
      show (⟨x.ho.lo, x.ho.hi + d⟩ : Sp) = ⟨z.ho.lo, z.ho.hi + d⟩
      rw [s2]
    · rw [if_neg e] at hu hv
      exact h2 i u v hu hv
  · rcases List.mem_or_eq_of_mem_set ht with ht | rfl
    · exact h3 t ht
    · exact h3 x (List.mem_of_getElem? hx)
end Go.Proofs.Ytokelpmngahnoaa
