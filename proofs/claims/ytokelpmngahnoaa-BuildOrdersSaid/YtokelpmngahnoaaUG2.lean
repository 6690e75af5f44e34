/- build: what holds the road up. -/
import Derived.Test.YtokelpmngahnoaaUJ10
import Derived.Test.YtokelpmngahnoaaUG1
import Derived.Test.YtokelpmngahnoaaUKC
set_option linter.unusedVariables false
set_option linter.unusedSimpArgs false
set_option linter.unnecessarySimpa false
namespace Go.Proofs.Ytokelpmngahnoaa
open Go.RowKit
set_option maxRecDepth 100000
attribute [local go_sem] Oper.semAt_some
attribute [local go_sem] run_store_fn
theorem Bun.slY {α : Type} {enc : α -> List Value} {sz lo hi : Nat} {v : Value} {l : List α} {w0 A : World} {L : List Res} (i : Nat) (h : Bun w0 L A) (hi_ : L[i]? = some (rsl enc sz lo hi v l)) : Sl enc sz 0 A.heap.size A v l := by
 have hP : Sl enc sz lo hi A v l := h.at i hi_
 have hb := fun g hx => (h.ltAt i hi_ g hx).1
 obtain ⟨hm, a, c, hv, h2⟩ := hP
 refine ⟨hm, a, c, hv, ?_⟩
 rcases h2 with h2 | ⟨b, off, ha, h3, h4, h5⟩
 · exact .inl h2
 · exact .inr ⟨b, off, ha, Nat.zero_le _, hb b ⟨h3, h4⟩, h5⟩
def ints (r : List Nat) : List Int := r.map fun (x : Nat) => (x : Int)
theorem ints_len (r : List Nat) : (ints r).length = r.length := by simp [ints]
def chnE (ms : List Mch) (ts : List Tsk) (dl : List Wea) : Int := if ¬ bothErr ms ts dl = 0 then bothErr ms ts dl else if ts.length = 0 then 7 else if (caseOf true ms ts dl).opn ts.length = 24 * (dl.length : Int) + 1 then 13 else 0
def chnC (ms : List Mch) (ts : List Tsk) (dl : List Wea) : List Nat := if chnE ms ts dl = 0 then (caseOf true ms ts dl).chn ts.length ((caseOf true ms ts dl).opr ts.length) else []
def ChainR (ms : List Mch) (ts : List Tsk) (dl : List Wea) (w : World) : Ending -> World -> Prop := fun e w' => ∃ (a : Option Addr) (cp lo hi : Nat), e = .returned (.tuple #[.slice a (chnC ms ts dl).length cp, .int .i64 (chnE ms ts dl)]) /\ (w.heap.size <= lo /\ hi <= w'.heap.size) /\ Sl intEnc 1 lo hi w' (.slice a (chnC ms ts dl).length cp) (ints (chnC ms ts dl)) /\ w.grownBy w' none
theorem ChainR.no {ms : List Mch} {ts : List Tsk} {dl : List Wea} {w w' : World} {e : Ending} {x : Int} (h : chnE ms ts dl = x) (h0 : ¬ x = 0) (hg : w.grownBy w' none) (he : e = .returned (.tuple #[.slice none 0 0, .int .i64 x])) : ChainR ms ts dl w e w' := by
 have e1 : chnC ms ts dl = [] := by rw [chnC, if_neg (by rw [h]; exact h0)]
 unfold ChainR
 rw [e1, h]
 exact ⟨none, 0, w.heap.size, w.heap.size, he, ⟨Nat.le_refl _, hg.size⟩, Sl.of_nil _ _, hg⟩
theorem ChainR.yes {ms : List Mch} {ts : List Tsk} {dl : List Wea} {w w' : World} {e : Ending} {v : Value} {l : List Nat} {b : Nat} (h : chnE ms ts dl = 0) (hl : (caseOf true ms ts dl).chn ts.length ((caseOf true ms ts dl).opr ts.length) = l) (ho : Own intEnc 3 1 b w' v (ints l)) (hb : w.heap.size <= b) (hg : w.grownBy w' none) (he : e = .returned (.tuple #[v, .int .i64 0])) : ChainR ms ts dl w e w' := by
 have e1 : chnC ms ts dl = l := by rw [chnC, if_pos h, hl]
 obtain ⟨a, cp, rfl, hs⟩ := Own.slN ho (fun _ => rfl) (ints_len l)
 unfold ChainR
 rw [e1, h]
 exact ⟨a, cp, _, _, he, ⟨hb, Nat.le_refl _⟩, hs, hg⟩
end Go.Proofs.Ytokelpmngahnoaa
