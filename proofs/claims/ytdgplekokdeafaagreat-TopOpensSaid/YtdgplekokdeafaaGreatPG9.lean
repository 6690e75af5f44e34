/- the kit of build: jobs within jobs. -/
import Derived.Test.YtdgplekokdeafaaGreatPG3
import Derived.Test.YtdgplekokdeafaaGreatPKA
import Derived.Test.YtdgplekokdeafaaGreatPK1
import Derived.Test.YtdgplekokdeafaaGreatPJ8
import Derived.Test.YtdgplekokdeafaaGreatPJK
import Derived.Test.YtdgplekokdeafaaGreatPJ10
import Derived.Test.YtdgplekokdeafaaGreatPKW
import Derived.Test.YtdgplekokdeafaaGreatPKC
set_option linter.unusedVariables false
set_option linter.unusedSimpArgs false
set_option linter.unnecessarySimpa false
namespace Go.Proofs.YtdgplekokdeafaaGreat
open Go.RowKit
set_option maxRecDepth 100000
attribute [local go_sem] Oper.semAt_some
theorem set_at {α : Type} {l : List α} {k : Nat} {y : α} (h : k < l.length) : (l.set k y)[k]? = some y := by rw [List.getElem?_set, if_pos rfl, if_pos h]
theorem Sl.n {α : Type} {enc : α -> List Value} {sz lo hi n c : Nat} {a : Option Addr} {w : World} {l : List α} (h : Sl enc sz lo hi w (.slice a n c) l) (hn : n = l.length) : Sl enc sz lo hi w (.slice a l.length c) l := hn ▸ h
theorem subS.refl {s : Sp} (h : s.lo <= s.hi) : subS s s := ⟨Int.le_refl _, h, Int.le_refl _⟩
theorem subTs.set {lt ts : List Tsk} {k : Nat} {z y : Tsk} (h : subTs lt ts) (hz : lt[k]? = some z) (h1 : y.m = z.m) (h2 : subS y.ho z.ho) (h3 : subS y.wa z.wa) (h4 : subS y.fr z.fr) (h5 : y.af = z.af) : subTs (lt.set k y) ts := by
 have hk := (List.getElem?_eq_some_iff.1 hz).1
 refine ⟨by rw [List.length_set]; exact h.1, fun i x t hx ht => ?_⟩
 rw [List.getElem?_set] at hx
 by_cases e : k = i
 ·
  subst e
  rw [if_pos rfl, if_pos hk] at hx
  injection hx with hx
  subst hx
  obtain ⟨a1, a2, a3, a4, a5⟩ := h.2 k z t hz ht
  unfold subS at *
  exact ⟨by rw [h1]; exact a1, by unfold subS; omega, by unfold subS; omega, by unfold subS; omega, by rw [h5]; exact a5⟩
 rw [if_neg e] at hx
 exact h.2 i x t hx ht
end Go.Proofs.YtdgplekokdeafaaGreat
/- the kit of build: jobs made of numbers, all of their own. -/
namespace Go.Proofs.YtdgplekokdeafaaGreat
open Go.RowKit
set_option maxRecDepth 100000
theorem Bun.joinS {w0 A B : World} {L L2 : List Res} {s : Nat} (h : Bun w0 L A) (h2 : Bus A s (rseed s :: L2) B) (hm : L2.all (fun r => r.mine) = true) (i : Nat) (hi : L[i]? = some (rseed s)) : Bun w0 (L2 ++ L) B := by
 have hg := h.seedAt i hi h2.gb (h2.at 0 rfl)
 have hd := h2.dis
 rw [List.pairwise_cons] at hd
 have hnew : ∀ r ∈ L2, ∀ g, r.X g -> A.heap.size <= g /\ g < B.heap.size := fun r hr g hx => by
  obtain ⟨h3, h4⟩ := h2.bd r (.tail _ hr) g hx
  refine ⟨?_, h3⟩
  rcases h4 (by have := List.all_eq_true.1 hm r hr; simpa using this) with h5 | rfl
  · exact h5
  · exact absurd hx (hd.1 r hr (.inl rfl) _ rfl)
 refine ⟨fun r hr => ?_, fun r hr g hx => ?_, ?_, hg.gb⟩
 ·
  rcases List.mem_append.1 hr with hr | hr
  · exact h2.all r (.tail _ hr)
  · exact hg.all r hr
 ·
  rcases List.mem_append.1 hr with hr | hr
  · exact ⟨(hnew r hr g hx).2, fun _ => Nat.le_trans h.gb.size (hnew r hr g hx).1⟩
  · exact hg.bd r hr g hx
 rw [List.pairwise_append]
 refine ⟨hd.2, hg.dis, fun a ha b hb _ g hx hy => ?_⟩
 have h3 := (hnew a ha g hx).1
 have h4 := (h.bd b hb g hy).1
 omega
attribute [local go_sem] Oper.semAt_some
end Go.Proofs.YtdgplekokdeafaaGreat
/- build: a task that takes some hours more. -/
namespace Go.Proofs.YtdgplekokdeafaaGreat
open Go.RowKit
theorem tsksErr_all {nm : Int} : ∀ {l : List Tsk} {i : Nat}, (∀ (k : Nat) (t : Tsk), l[k]? = some t -> tskErr nm ((i + k : Nat) : Int) t = 0) -> tsksErr nm i l = 0
 | [], _, _ => rfl
 | y :: l, i, h => by
  have h0 := h 0 y rfl
  rw [Nat.add_zero] at h0
  rw [tsksErr, if_neg (not_not_intro h0)]
  refine tsksErr_all (l := l) (i := i + 1) (fun k t hk => ?_)
  have := h (k + 1) t (by simpa using hk)
  rwa [show i + (k + 1) = i + 1 + k by omega] at this
theorem tsksErr_each {nm : Int} : ∀ {l : List Tsk} {i : Nat}, tsksErr nm i l = 0 -> ∀ (k : Nat) (t : Tsk), l[k]? = some t -> tskErr nm ((i + k : Nat) : Int) t = 0
 | [], _, _, k, t, hk => by simp at hk
 | y :: l, i, h, k, t, hk => by
  rw [tsksErr] at h
  split at h
  · contradiction
  rename_i h1
  cases k with
  | zero =>
   simp at hk
   subst hk
   exact Classical.not_not.1 h1
  | succ k =>
   have := tsksErr_each h k t (by simpa using hk)
   rwa [show i + (k + 1) = i + 1 + k by omega]
end Go.Proofs.YtdgplekokdeafaaGreat
