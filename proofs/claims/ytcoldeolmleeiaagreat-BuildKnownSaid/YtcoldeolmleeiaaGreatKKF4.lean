/- frost: contracts as the laws use them. -/
import Derived.Test.YtcoldeolmleeiaaGreatKJ9
import Derived.Test.YtcoldeolmleeiaaGreatKGG8
import Derived.Test.YtcoldeolmleeiaaGreatKKF1
import Derived.Test.YtcoldeolmleeiaaGreatKK1
import Derived.Test.YtcoldeolmleeiaaGreatKF40
import Derived.Test.YtcoldeolmleeiaaGreatKKA
set_option linter.unusedVariables false
set_option linter.unusedSimpArgs false
set_option linter.unnecessarySimpa false
namespace Go.Proofs.YtcoldeolmleeiaaGreat
open Go.RowKit
set_option maxRecDepth 100000
theorem Own.slC {α : Type} {enc : α -> List Value} {e : TypeId} {sz base : Nat} {w : World} {v : Value} {l : List α} (h : Own enc e sz base w v l) (hsz : ∀ x, (enc x).length = sz) : ∃ (a : Option Addr) (c : Nat), v = .slice a l.length c /\ l.length <= c /\ Sl enc sz base w.heap.size w (.slice a l.length c) l := by
 have h1 := h.sl hsz
 obtain ⟨a, c, rfl⟩ := h1.any
 refine ⟨a, c, rfl, ?_, h1⟩
 obtain ⟨h0, h2⟩ := h
 rcases h2 with ⟨e2, hn⟩ | ⟨g, cap, cur, e2, hb, hh, hnc, hcm, hcs, htk⟩
 ·
  injection e2 with e3 e4 e5
  omega
 injection e2 with e3 e4 e5
 omega
theorem allE_of {l : Fro} {x : Ice} {ds : List Wea} (h1 : froErr l = 0) (h2 : iceErr x = 0) (h3 : ∀ d ∈ ds, weaErr d = 0) (h4 : ds.length <= 400) : allE l x ds = 0 := by
 rw [allE, if_neg (not_not_intro h1), if_neg (not_not_intro h2), daysE, if_neg (by omega)]
 exact daysErr_ofF ds h3
attribute [local go_sem] Oper.semAt_some
end Go.Proofs.YtcoldeolmleeiaaGreat
/- the reference of frost: bearing. -/
namespace Go.Proofs.YtcoldeolmleeiaaGreat
open Go.RowKit
set_option maxRecDepth 100000
open Go.Shelf
theorem grtP_spec (p : Nat -> Bool) : ∀ c : Nat, (grtP p c = -1 /\ ∀ k, k < c -> p k = false) ∨ ∃ k : Nat, k < c /\ grtP p c = k /\ p k = true /\ ∀ j, k < j -> j < c -> p j = false
 | 0 => .inl ⟨rfl, fun k h => by omega⟩
 | c + 1 => by
  have e : grtP p (c + 1) = if p c = true then (c : Int) else grtP p c := rfl
  by_cases h : p c = true
  · exact .inr ⟨c, by omega, by rw [e, if_pos h], h, fun j h1 h2 => by omega⟩
  rcases grtP_spec p c with ⟨h1, h2⟩ | ⟨k, h1, h2, h3, h4⟩
  ·
   refine .inl ⟨by rw [e, if_neg h, h1], fun k hk => ?_⟩
   rcases Nat.lt_or_ge k c with h5 | h5
   · exact h2 k h5
   obtain rfl : k = c := by omega
   simpa using h
  refine .inr ⟨k, by omega, by rw [e, if_neg h, h2], h3, fun j hj hj2 => ?_⟩
  rcases Nat.lt_or_ge j c with h5 | h5
  · exact h4 j hj h5
  obtain rfl : j = c := by omega
  simpa using h
def FloodF (l : Fro) (x : Ice) (dl : List Wea) (m : Nat) (most n : Int) : Prop := (-1 <= n /\ n <= most) /\ (0 <= n -> dryB l x (setW dl m n) = true) /\ (n < most -> dryB l x (setW dl m (n + 1)) = false)
theorem floodF {l : Fro} {x : Ice} {dl : List Wea} {m : Nat} {most : Int} (h0 : 0 <= most) : FloodF l x dl m most (grtP (fun k : Nat => dryB l x (setW dl m (k : Int))) (most.toNat + 1)) := by
 rcases grtP_spec (fun k : Nat => dryB l x (setW dl m (k : Int))) (most.toNat + 1) with ⟨h1, h2⟩ | ⟨k, h1, h2, h3, h4⟩
 ·
  rw [h1]
  exact ⟨⟨by omega, by omega⟩, fun h => by omega, fun _ => h2 0 (by omega)⟩
 rw [h2]
 refine ⟨⟨by omega, by omega⟩, fun _ => h3, fun h => ?_⟩
 have := h4 (k + 1) (by omega) (by omega)
 push_cast at this
 exact this
theorem allE_take {l : Fro} {x : Ice} {dl : List Wea} (k : Nat) (h1 : froErr l = 0) (h2 : iceErr x = 0) (h3 : ∀ d ∈ dl, weaErr d = 0) (h4 : dl.length <= 400) : allE l x (dl.take k) = 0 := allE_of h1 h2 (fun d hd => h3 d (List.mem_of_mem_take hd)) (by rw [List.length_take]; omega)
end Go.Proofs.YtcoldeolmleeiaaGreat
