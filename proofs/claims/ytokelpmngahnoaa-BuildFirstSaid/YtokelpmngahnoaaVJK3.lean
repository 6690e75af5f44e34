/- the kit of build: copies of jobs. -/
import Derived.Test.YtokelpmngahnoaaVJK
import Derived.Test.YtokelpmngahnoaaVKC
import Derived.Test.YtokelpmngahnoaaVK1
set_option linter.unusedVariables false
set_option linter.unusedSimpArgs false
set_option linter.unnecessarySimpa false
namespace Go.Proofs.Ytokelpmngahnoaa
open Go.RowKit
set_option maxRecDepth 100000
attribute [local go_sem] Oper.semAt_some
def OwnP (b0 : Nat) (l : List Int) (w : World) : Ending -> World -> Prop := fun e w' => ∃ (a : Option Addr) (c : Nat), e = .returned (.slice a l.length c) /\ Own intEnc 3 1 b0 w' (.slice a l.length c) l /\ (∀ g, (Value.slice a l.length c).ownBlock = some g -> w.heap.size <= g /\ g < w'.heap.size) /\ w.grownBy w' none
theorem Own.low {α : Type} {enc : α -> List Value} {e : TypeId} {sz base base' : Nat} {w : World} {v : Value} {l : List α} (h : Own enc e sz base w v l) (hb : base' <= base) : Own enc e sz base' w v l := by
 obtain ⟨h0, h2⟩ := h
 refine ⟨h0, ?_⟩
 rcases h2 with h2 | ⟨g, cap, cur, e2, hb2, h3⟩
 · exact .inl h2
 · exact .inr ⟨g, cap, cur, e2, Nat.le_trans hb hb2, h3⟩
set_option maxHeartbeats 4000000 in
theorem ownI_c (lo hi b0 : Nat) (v : Value) (l : List Int) (w : World) (hl : Sl intEnc 1 lo hi w v l) (h2 : hi <= w.heap.size) (hs : l.length <= 100000) (hb0 : b0 <= w.heap.size) :
  Calls Try.prog 61 #[v] w (OwnP b0 l w) := by
 have F1 : Bun w [] w := Bun.nil _
 have hm_l := hl.len
 unfold maxLen at hm_l
 obtain ⟨a, c, rfl⟩ := hl.any
 have F2 := F1.sl0 hl h2 rfl
 clear F1
 clear hl
 go_enter Try.func61, Try.ntmps61
 go_wp2_with (at_builtin; refine wpList_copyB okInt rfl _ _ rfl w.heap.size w.heap.size rfl (F2.new 3 #[] (n := w.heap.size) (by simp)) (by first | omega | (simp; omega)) lo hi (.slice a l.length c) l rfl ((F2.new 3 #[] (n := w.heap.size) (by simp)).at 1 rfl) (by omega) ?_; intro vc3 w4 hB5 hs6; refine Hid.out ?_)
 refine lhd ?_
 (try simp at hs6)
 have F7 := hB5
 clear F2
 obtain ⟨ca8, cap9, e_⟩ := (Own.sl (F7.at 0 rfl : Own intEnc 3 1 w.heap.size _ vc3 l) (fun _ => rfl)).any
 subst e_
 go_wp2_with fail
 exact bodyPost_ret (v := .slice ca8 l.length cap9) (by simp [results, Try.results61, go_sem]) rfl (⟨_, _, rfl, Own.low (F7.at 0 rfl : Own intEnc 3 1 w.heap.size _ (.slice ca8 l.length cap9) l) hb0, (fun g hx => ⟨(F7.ltAt 0 rfl g hx).2 rfl, (F7.ltAt 0 rfl g hx).1⟩), F7.gb⟩)
end Go.Proofs.Ytokelpmngahnoaa
