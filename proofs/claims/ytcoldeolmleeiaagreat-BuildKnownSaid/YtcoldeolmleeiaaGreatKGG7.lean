/- build: a task that takes some hours more. -/
import Derived.Test.YtcoldeolmleeiaaGreatKGG2
import Derived.Test.YtcoldeolmleeiaaGreatKKA
import Derived.Test.YtcoldeolmleeiaaGreatKGG4
import Derived.Test.YtcoldeolmleeiaaGreatKK1
import Derived.Test.YtcoldeolmleeiaaGreatKJ8
set_option linter.unusedVariables false
set_option linter.unusedSimpArgs false
set_option linter.unnecessarySimpa false
namespace Go.Proofs.YtcoldeolmleeiaaGreat
open Go.RowKit
theorem tsksErr_each {nm : Int} : ∀ {l : List Tsk} {i : Nat}, tsksErr nm i l = 0 -> ∀ (k : Nat) (t : Tsk), l[k]? = some t -> tskErr nm ((i + k : Nat) : Int) t = 0
 | [], _, _, k, t, hk => by simp at hk
 | y :: l, i, h, k, t, hk => by
  rw [tsksErr] at h
  split at h
  · contradiction
  rename_i h1
  cases k with
  | zero =>
   simp at hk
   subst hk
   exact Classical.not_not.1 h1
  | succ k =>
   have := tsksErr_each h k t (by simpa using hk)
   rwa [show i + (k + 1) = i + 1 + k by omega]
def moreT (t : Tsk) (d : Int) : Tsk := ⟨t.m, ⟨t.ho.lo, t.ho.hi + d⟩, t.wa, t.fr, t.af, t.av⟩
theorem tk_set {ts : List Tsk} {k : Nat} {z : Tsk} {d : Int} (hz : ts[k]? = some z) (i : Nat) : tk (ts.set k (moreT z d)) i = if i = k then moreT z d else tk ts i := by
 have hk : k < ts.length := (List.getElem?_eq_some_iff.1 hz).1
 unfold tk
 rw [List.getD_eq_getElem?_getD, List.getD_eq_getElem?_getD, List.getElem?_set]
 by_cases h : i = k
 ·
  subst h
  rw [if_pos rfl, if_pos rfl, if_pos hk]
  rfl
 · rw [if_neg h, if_neg (fun e => h e.symm)]
theorem more_le {ms : List Mch} {ts : List Tsk} {dl : List Wea} {k : Nat} {z : Tsk} {d e : Int} (h : JobOk ms ts) (hz : ts[k]? = some z) (hd : 0 <= d) (hde : d <= e) : CsLe (caseOf true ms (ts.set k (moreT z d)) dl) (caseOf true ms (ts.set k (moreT z e)) dl) := by
 have hk := fun i => tk_ok h i
 have hzk := tk_get hz
 have e1 := fun i => tk_set (d := d) hz i
 have e2 := fun i => tk_set (d := e) hz i
 refine ⟨rfl, fun i => ?_, fun i => ?_, fun i => ?_, fun i => ?_, fun i => ?_, fun i a ha => ?_, fun _ => rfl, fun m x hx => hx⟩
 ·
  show 0 <= (tk _ i).ho.hi /\ (tk _ i).ho.hi <= (tk _ i).ho.hi
  rw [e1, e2]
  have := hk i
  by_cases hi : i = k
  ·
   subst hi
   rw [if_pos rfl, if_pos rfl]
   rw [hzk] at this
   unfold moreT
   simp only
   omega
  rw [if_neg hi, if_neg hi]
  omega
 ·
  show 0 <= (tk _ i).wa.hi /\ (tk _ i).wa.hi <= (tk _ i).wa.hi
  rw [e1, e2]
  have := hk i
  by_cases hi : i = k
  ·
   subst hi
   rw [if_pos rfl, if_pos rfl]
   rw [hzk] at this
   exact ⟨by show 0 <= z.wa.hi; omega, Int.le_refl _⟩
  rw [if_neg hi, if_neg hi]
  omega
 ·
  show 0 <= (tk _ i).fr.hi /\ (tk _ i).fr.hi <= (tk _ i).fr.hi
  rw [e1, e2]
  have := hk i
  by_cases hi : i = k
  ·
   subst hi
   rw [if_pos rfl, if_pos rfl]
   rw [hzk] at this
   exact ⟨by show 0 <= z.fr.hi; omega, Int.le_refl _⟩
  rw [if_neg hi, if_neg hi]
  omega
 ·
  show (tk _ i).m = (tk _ i).m
  rw [e1, e2]
  split <;> rfl
 ·
  show (tk _ i).af = (tk _ i).af
  rw [e1, e2]
  split <;> rfl
 have ha' : a ∈ (tk (ts.set k (moreT z d)) i).af := ha
 rw [e1] at ha'
 by_cases hi : i = k
 ·
  subst hi
  rw [if_pos rfl] at ha'
  refine tk_aok h i a ?_
  rw [hzk]
  exact ha'
 rw [if_neg hi] at ha'
 exact tk_aok h i a ha'
theorem more_zero {ts : List Tsk} {k : Nat} {z : Tsk} (hz : ts[k]? = some z) : ts.set k (moreT z 0) = ts := by
 refine List.ext_getElem? fun i => ?_
 rw [List.getElem?_set]
 by_cases h : k = i
 ·
  subst h
  have hk : k < ts.length := (List.getElem?_eq_some_iff.1 hz).1
  rw [if_pos rfl, if_pos hk, hz]
  have e : moreT z 0 = z := by unfold moreT; rw [Int.add_zero]
  rw [e]
 · rw [if_neg h]
set_option maxRecDepth 100000
attribute [local go_sem] Oper.semAt_some
theorem Sl.n {α : Type} {enc : α -> List Value} {sz lo hi n c : Nat} {a : Option Addr} {w : World} {l : List α} (h : Sl enc sz lo hi w (.slice a n c) l) (hn : n = l.length) : Sl enc sz lo hi w (.slice a l.length c) l := hn ▸ h
theorem subS.refl {s : Sp} (h : s.lo <= s.hi) : subS s s := ⟨Int.le_refl _, h, Int.le_refl _⟩
theorem subTs.set {lt ts : List Tsk} {k : Nat} {z y : Tsk} (h : subTs lt ts) (hz : lt[k]? = some z) (h1 : y.m = z.m) (h2 : subS y.ho z.ho) (h3 : subS y.wa z.wa) (h4 : subS y.fr z.fr) (h5 : y.af = z.af) : subTs (lt.set k y) ts := by
 have hk := (List.getElem?_eq_some_iff.1 hz).1
 refine ⟨by rw [List.length_set]; exact h.1, fun i x t hx ht => ?_⟩
 rw [List.getElem?_set] at hx
 by_cases e : k = i
 ·
  subst e
  rw [if_pos rfl, if_pos hk] at hx
  injection hx with hx
  subst hx
  obtain ⟨a1, a2, a3, a4, a5⟩ := h.2 k z t hz ht
  unfold subS at *
  exact ⟨by rw [h1]; exact a1, by unfold subS; omega, by unfold subS; omega, by unfold subS; omega, by rw [h5]; exact a5⟩
 rw [if_neg e] at hx
 exact h.2 i x t hx ht
end Go.Proofs.YtcoldeolmleeiaaGreat
/- the kit of build: jobs made of numbers, all of their own. -/
namespace Go.Proofs.YtcoldeolmleeiaaGreat
open Go.RowKit
set_option maxRecDepth 100000
end Go.Proofs.YtcoldeolmleeiaaGreat
