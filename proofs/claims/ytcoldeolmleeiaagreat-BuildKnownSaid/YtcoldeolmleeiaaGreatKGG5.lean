/- build and its reference: whether a task can be begun. -/
import Derived.Test.YtcoldeolmleeiaaGreatKGG4
import Derived.Test.YtcoldeolmleeiaaGreatKJ10
import Derived.Test.YtcoldeolmleeiaaGreatKGG3
set_option linter.unusedVariables false
set_option linter.unusedSimpArgs false
set_option linter.unnecessarySimpa false
namespace Go.Proofs.YtcoldeolmleeiaaGreat
open Go.RowKit
set_option maxRecDepth 100000
attribute [local go_sem] Oper.semAt_some
theorem SiteOk.no {c : Cs} {N i h : Nat} (H : SiteOk c N) (hi : i < N) (hh : h <= 24 * c.nd) (hn : ¬ (c.fr i <= (h : Int) /\ (∀ k, k < i -> c.m k = c.m i -> c.enI N k <= (h : Int)) /\ ∀ a ∈ c.af i, c.enI N a.toNat + c.wa a.toNat <= (h : Int))) : decide (c.bgI N i <= (h : Int)) = false :=
 decide_eq_false (fun hb => hn ((H.ready hi (by unfold Cs.past; omega)).1 hb))
end Go.Proofs.YtcoldeolmleeiaaGreat
/- build and its reference: an hour on the site. -/
namespace Go.Proofs.YtcoldeolmleeiaaGreat
open Go.RowKit
set_option maxRecDepth 100000
attribute [local go_sem] Oper.semAt_some
theorem Own.opnN {α : Type} {enc : α -> List Value} {e : TypeId} {sz base n : Nat} {w : World} {v : Value} {l : List α} (h : Own enc e sz base w v l) (hn : l.length = n) (h0 : 0 < n) : ∃ g cap, v = .slice (some ⟨g, 0, none⟩) n cap := by
 subst hn
 exact Own.opn h h0
section
variable {c : Cs} {N h i : Nat}
end
end Go.Proofs.YtcoldeolmleeiaaGreat
/- build and its reference: a site after all days. -/
namespace Go.Proofs.YtcoldeolmleeiaaGreat
open Go.RowKit
set_option maxRecDepth 100000
attribute [local go_sem] Oper.semAt_some
end Go.Proofs.YtcoldeolmleeiaaGreat
/- build and its reference: spans within spans; Times of what has no error. -/
namespace Go.Proofs.YtcoldeolmleeiaaGreat
open Go.RowKit
set_option maxRecDepth 100000
def rall (l : List Res) : Res := ⟨false, fun x => ∃ r ∈ l, r.X x, fun w => ∀ r ∈ l, r.P w, fun A B q hg hr h r hrl => r.st A B q hg (fun g e hx => hr g e ⟨r, hrl, hx⟩) (h r hrl)⟩
section
variable {w0 A B : World} {K l N : List Res}
theorem Bun.hide (h : Bun w0 (K ++ l) A) : Bun w0 (K ++ [rall l]) A := by
 have hd := List.pairwise_append.1 h.dis
 refine ⟨fun r hr => ?_, fun r hr g hx => ?_, ?_, h.gb⟩
 ·
  rcases List.mem_append.1 hr with hr | hr
  · exact h.all r (List.mem_append_left _ hr)
  obtain rfl := List.mem_singleton.1 hr
  exact fun r hr => h.all r (List.mem_append_right _ hr)
 ·
  rcases List.mem_append.1 hr with hr | hr
  · exact h.bd r (List.mem_append_left _ hr) g hx
  obtain rfl := List.mem_singleton.1 hr
  obtain ⟨r, hr, hx⟩ := hx
  exact ⟨(h.bd r (List.mem_append_right _ hr) g hx).1, fun hm => by cases hm⟩
 refine List.pairwise_append.2 ⟨hd.1, List.pairwise_singleton _ _, fun a ha b hb hm g hx hy => ?_⟩
 obtain rfl := List.mem_singleton.1 hb
 obtain ⟨r, hr, hy⟩ := hy
 have hm' : a.mine = true := by
  rcases hm with hm | hm
  · exact hm
  · cases hm
 exact hd.2.2 a ha r hr (.inl hm') g hx hy
theorem Bun.show (h0 : Bun w0 (K ++ l) A) (h : Bun w0 (N ++ (K ++ [rall l])) B) (hN : N.all (fun r => r.mine) = true) : Bun w0 (N ++ (K ++ l)) B := by
 have hd := List.pairwise_append.1 h.dis
 have hmem : rall l ∈ N ++ (K ++ [rall l]) := by simp
 have hP := h.all _ hmem
 refine ⟨fun r hr => ?_, fun r hr g hx => ?_, ?_, h.gb⟩
 ·
  rcases List.mem_append.1 hr with hr | hr
  · exact h.all r (List.mem_append_left _ hr)
  rcases List.mem_append.1 hr with hr | hr
  · exact h.all r (List.mem_append_right _ (List.mem_append_left _ hr))
  · exact hP r hr
 ·
  rcases List.mem_append.1 hr with hr | hr
  · exact h.bd r (List.mem_append_left _ hr) g hx
  rcases List.mem_append.1 hr with hr | hr
  · exact h.bd r (List.mem_append_right _ (List.mem_append_left _ hr)) g hx
  · exact ⟨(h.bd _ hmem g ⟨r, hr, hx⟩).1, (h0.bd r (List.mem_append_right _ hr) g hx).2⟩
 refine List.pairwise_append.2 ⟨hd.1, h0.dis, fun a ha b hb hm g hx hy => ?_⟩
 have ham : a.mine = true := by have := List.all_eq_true.1 hN a ha; simpa using this
 rcases List.mem_append.1 hb with hb | hb
 · exact hd.2.2 a ha b (List.mem_append_left _ hb) (.inl ham) g hx hy
 · exact hd.2.2 a ha (rall l) (by simp) (.inl ham) g hx ⟨b, hb, hy⟩
end
def insL (f : Tsk -> Sp) (ts : List Tsk) (k : Nat) (l : List Int) : Prop := l.length = k /\ ∀ i x, l[i]? = some x -> (f (tk ts i)).lo <= x /\ x <= (f (tk ts i)).hi
theorem insL.zero (f : Tsk -> Sp) (ts : List Tsk) : insL f ts 0 [] := ⟨rfl, fun i x h => by simp at h⟩
theorem insL.snoc {f : Tsk -> Sp} {ts : List Tsk} {k : Nat} {l : List Int} {z : Tsk} {x : Int} (h : insL f ts k l) (hz : ts[k]? = some z) (hx : (f z).lo <= x /\ x <= (f z).hi) : insL f ts (k + 1) (l ++ [x]) := by
 refine ⟨by rw [List.length_append, h.1]; rfl, fun i y hy => ?_⟩
 rcases Nat.lt_trichotomy i k with hi | rfl | hi
 ·
  rw [List.getElem?_append_left (by rw [h.1]; exact hi)] at hy
  exact h.2 i y hy
 ·
  rw [List.getElem?_append_right (by rw [h.1]; exact Nat.le_refl _), h.1, Nat.sub_self] at hy
  obtain rfl := Option.some.inj hy
  rw [tk_get hz]
  exact hx
 rw [List.getElem?_eq_none (by rw [List.length_append, h.1]; simp; omega)] at hy
 cases hy
def okB (x : Mch) (dl : List Wea) (d : Nat) (b : Bool) : Prop := (wkB true (wkV x (dy dl d)) = true -> b = true) /\ (b = true -> wkB false (wkV x (dy dl d)) = true)
def inR (x : Mch) (dl : List Wea) (d : Nat) (l : List Bool) : Prop := l.length = dl.length /\ ∀ j b, j < d -> l[j]? = some b -> okB x dl j b
theorem inR.zero (x : Mch) (dl : List Wea) : inR x dl 0 (List.replicate dl.length false) := ⟨by simp, fun j b h => absurd h (Nat.not_lt_zero _)⟩
theorem inR.set {x : Mch} {dl : List Wea} {d : Nat} {l : List Bool} {b : Bool} (h : inR x dl d l) (hb : okB x dl d b) : inR x dl (d + 1) (l.set d b) := by
 refine ⟨by rw [List.length_set, h.1], fun j c hj hc => ?_⟩
 rw [List.getElem?_set] at hc
 by_cases e : d = j
 ·
  subst e
  rw [if_pos rfl] at hc
  split at hc
  ·
   obtain rfl := Option.some.inj hc
   exact hb
  · cases hc
 rw [if_neg e] at hc
 exact h.2 j c (by omega) hc
theorem insL.at_ {f : Tsk -> Sp} {ms : List Mch} {ts : List Tsk} {l : List Int} (h : insL f ts ts.length l) (hd : ∀ i, ts.length <= i -> f (tk ts i) = sp0) (i : Nat) : (f (tk ts i)).lo <= l.getD i 0 /\ l.getD i 0 <= (f (tk ts i)).hi := by
 rcases Nat.lt_or_ge i l.length with hi | hi
 ·
  rw [List.getD_eq_getElem?_getD, List.getElem?_eq_getElem hi]
  exact h.2 i _ (List.getElem?_eq_getElem hi)
 rw [List.getD_eq_getElem?_getD, List.getElem?_eq_none hi, hd i (by rw [← h.1]; exact hi)]
 exact ⟨Int.le_refl _, Int.le_refl _⟩
end Go.Proofs.YtcoldeolmleeiaaGreat
