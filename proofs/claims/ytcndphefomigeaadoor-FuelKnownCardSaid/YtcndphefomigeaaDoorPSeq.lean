/- A range over a function whose elements come by number, each with a block of its own: the iterator's contract and the loop's law, told for this claim. -/
import Derived.Test.YtcndphefomigeaaDoorPBase
import Derived.RangeFuncNested
import Derived.RangeFuncBound
import Derived.RangeFuncCalls
import Derived.RangeFuncLeaves
import Derived.Shelf.Abstract
import Derived.Shelf.RegionOpen
import Derived.OwnWalkIn
import Derived.TacticsInMore
import Derived.LoopNIn
import Derived.LoopIn
set_option linter.unusedVariables false
set_option linter.unusedSimpArgs false
set_option linter.unnecessarySimpa false
namespace Go.Proofs.YtcndphefomigeaaDoor
open Go.RowKit Go.Shelf

/-- The iterator hands out N values in a row; the i-th bears a block p of its own that holds i. What a round leaves in memory is the caller's (J), so long as it implies what the iterator reads (Hold). -/
def SeqG (P : Program) (gf : Nat) (lb : Array Value) (N : Nat) (el : Nat → Nat → Value) (t : TypeId) (Hold : World → Prop) : Prop :=
  ∀ (l s₀ : Nat) (J Jx : Nat → World → Prop) (W : World), (∀ i A, J i A → s₀ ≤ A.heap.size) →
    (∀ i A B, J i A → A.grownBy B none → J i B) → (∀ i A, J i A → Hold A) →
    (∀ i p A, J i A → i < N → s₀ ≤ p → Bk A p t #[.int .i64 i] → YieldAt Fence.wide 0 P l #[el i p] A fun e B =>
      (e = .returned (.bool true) ∧ J (i + 1) B) ∨ (e = .returned (.bool false) ∧ Jx (i + 1) B)) →
    J 0 W → Calls P gf (#[.func (.yield l) #[] #[]] ++ lb) W fun e B => (∃ v, e = .returned v) ∧ (J N B ∨ ∃ i, i ≤ N ∧ Jx i B)

/-- The loop's two blocks lie as they lay. -/
def KeepD (s : Nat) (W W' : World) : Prop := W'.heap[s]? = W.heap[s]? ∧ W'.heap[s + 1]? = W.heap[s + 1]?
theorem KeepD.of_gb {s : Nat} {W W' : World} {r : Option Nat} (h : W.grownBy W' r) (hs : s + 2 ≤ W.heap.size) (hr : some s ≠ r) (hr' : some (s + 1) ≠ r) : KeepD s W W' :=
  ⟨h.block s (by omega) hr, h.block (s + 1) (by omega) hr'⟩
def gPost (s : Nat) (I : Nat → World → Prop) (Ix : Code → Nat → World → Prop) (i : Nat) (W : World) : Exit → Act → World → Prop
  | .normal, _, W' => KeepD s W W' ∧ I i W'
  | .ret, _, W' => KeepD s W W' ∧ Ix .ret i W'
  | .exit id, _, W' => KeepD s W W' ∧ Ix (.exit id) i W'
  | .goto t, _, W' => KeepD s W W' ∧ Ix (.goto t) i W'
  | .panic _, _, _ => False
  | .outgrown, _, _ => False

/-- The loop's law. -/
theorem wp_rangeG {P : Program} {g : Operand} {ps : Array Tmp} {assign body : Code} {Q : Exit → Act → World → Prop} {a : Act} {w : World} {gf : Nat} {lb : Array Value} {N : Nat} {el : Nat → Nat → Value} {t : TypeId} {Hold : World → Prop}
    (hg : a.eval g = .func (.func gf) #[] lb) (eg : ∀ args w, (callFunc gf args).run P w = .ok (.enter gf args) w) (hps : ps.size = 1) (hseq : SeqG P gf lb N el t Hold)
    (I : Nat → World → Prop) (Ix : Code → Nat → World → Prop) (hI : OwnFrom w.heap.size I) (hIx : ∀ c, OwnFrom w.heap.size (Ix c)) (hH : ∀ i A, I i A → Hold A) (h0 : I 0 w)
    (hround : ∀ (l i p : Nat) (W : World), I i W → i < N → w.heap.size + 2 ≤ p → w.heap.size + 2 ≤ W.heap.size → Bk W p t #[.int .i64 i] →
      assign.wpIn (Fence.wide.inRound l) 0 P (Exit.then (fun a' W' => KeepD w.heap.size W W' ∧ (∀ W2, W'.grownBy W2 (some (w.heap.size + 1)) → body.wpIn (Fence.wide.inRound l) 0 P (gPost w.heap.size I Ix (i + 1) W2) a' W2)) (fun _ _ _ => False))
        { tmps := (ps.zip #[el i p]).foldl (fun t (p, v) => t.setIfInBounds p v) a.tmps, defers := [] } W)
    (hdone : ∀ W, I N W → W.heap[w.heap.size]? = some (.deferred (some [])) → Q .normal { a with defers := { target := .collected w.heap.size, args := #[] } :: a.defers } W)
    (hstop : ∀ c i W, i ≤ N → Ix c i W → W.heap[w.heap.size]? = some (.deferred (some [])) → c.wp P Q { a with defers := { target := .collected w.heap.size, args := #[] } :: a.defers } W) :
    (Code.rangeFunc g ps assign body).wp P Q a w := by
  refine wpIn_wide (n := 0).1 (wpIn_rangeFunc ?_)
  intro fn hfn
  obtain ⟨rec, hrec⟩ : ∃ rec : LoopState → Option Code → Loop, rec = fun st pe => { state := st, pending := pe, fn, tmps := a.tmps, params := ps, assign, body, defers := w.heap.size } := ⟨_, rfl⟩
  obtain ⟨W1, hW1⟩ : ∃ W1, (w.alloc (.deferred (some []))).alloc (.loop (rec .ready none)) = W1 := ⟨_, rfl⟩
  have hL1 : W1.heap[w.heap.size + 1]? = some (.loop (rec .ready none)) := by
    rw [← hW1]; have := World.alloc_heap_new (w.alloc (.deferred (some []))) (.loop (rec .ready none)); rwa [World.size_alloc] at this
  have hK1 : W1.heap[w.heap.size]? = some (.deferred (some [])) := by
    rw [← hW1]; exact (Below.heap_alloc _ _ _ (by simp)).trans (World.alloc_heap_new w _)
  have hI1 : I 0 W1 := by rw [← hW1]; exact hI.alloc _ (hI.alloc _ h0)
  have hs1 : W1.heap.size = w.heap.size + 2 := by rw [← hW1]; simp
  refine ⟨w.heap.size + 1, [{ target := .collected w.heap.size, args := #[] }], W1, { target := .fn (.func gf) lb, args := #[.func (.yield (w.heap.size + 1)) #[] #[]] }, W1, gf,
    #[.func (.yield (w.heap.size + 1)) #[] #[]] ++ lb, W1, ?_, ?_, fun _ _ => trivial, ?_, by simp [Fence.wide], ?_⟩
  · rw [← hW1, hrec]; exact run_enterLoop_outer _ _ _ _ _
  · simp only [resolve, hg]
    simp [go_sem]
  · simp [invoke, go_sem, eg]
  refine callsIn_wide.2 ((hseq (w.heap.size + 1) (w.heap.size + 2)
    (fun i W => I i W ∧ W.heap[w.heap.size + 1]? = some (.loop (rec .ready none)) ∧ W.heap[w.heap.size]? = some (.deferred (some [])))
    (fun i W => ∃ c, Ix c i W ∧ W.heap[w.heap.size + 1]? = some (.loop (rec .done (some c))) ∧ W.heap[w.heap.size]? = some (.deferred (some [])))
    W1 (fun i A hs => by have := (Array.getElem?_eq_some_iff.1 hs.2.1).1; omega)
    (fun i A B hs hg' => ⟨hI i A B none hs.1 hg' (fun r e => by cases e), (hg'.block _ (Array.getElem?_eq_some_iff.1 hs.2.1).1 (by simp)).trans hs.2.1, (hg'.block _ (Array.getElem?_eq_some_iff.1 hs.2.2).1 (by simp)).trans hs.2.2⟩)
    (fun i A hs => hH i A hs.1) ?_ ⟨hI1, hL1, hK1⟩).mono ?_)
  · rintro i p W ⟨hi, hl, hk⟩ hlen hp hbk
    have hlt : w.heap.size + 1 < W.heap.size := (Array.getElem?_eq_some_iff.1 hl).1
    have hy := run_yield (P := P) (args := #[el i p]) hl (by rw [hrec]; exact hps.symm)
    rw [hrec] at hy
    refine ⟨fn, _, assign, body, hy, roundIn_of_wpIn hfn (wpIn_mono (hround (w.heap.size + 1) i p W hi hlen (by omega) (by omega) hbk) ?_)⟩
    clear hy
    intro e a' Wa hpost
    cases e with
    | normal =>
      obtain ⟨⟨kd, kl⟩, hb⟩ := hpost
      have hla := kl.trans hl
      have hka := kd.trans hk
      refine ⟨_, run_beginRound hla (by rw [hrec]), ?_⟩
      have hlta : w.heap.size + 1 < Wa.heap.size := (Array.getElem?_eq_some_iff.1 hla).1
      have hl2 : (Wa.putObj (w.heap.size + 1) (.loop { rec .ready none with state := .busy })).heap[w.heap.size + 1]? = some (.loop { rec .ready none with state := .busy }) := World.putObj_heap_same hlta
      have hk2 : (Wa.putObj (w.heap.size + 1) (.loop { rec .ready none with state := .busy })).heap[w.heap.size]? = some (.deferred (some [])) := (World.putObj_heap_other (by omega)).trans hka
      refine wpIn_mono (hb _ (grownBy_putObj' _ _ _)) ?_
      have fin : ∀ (jump : Option Code) (W3 : World), KeepD w.heap.size (Wa.putObj (w.heap.size + 1) (.loop { rec .ready none with state := .busy })) W3 →
          (Instr.endRound (w.heap.size + 1) jump).run P W3 = .ok (.bool jump.isNone) (W3.putObj (w.heap.size + 1) (.loop (rec (if jump.isNone then .ready else .done) jump))) ∧
          W3.heap[w.heap.size + 1]? = some (.loop { rec .ready none with state := .busy }) ∧
          (W3.putObj (w.heap.size + 1) (.loop (rec (if jump.isNone then .ready else .done) jump))).heap[w.heap.size + 1]? = some (.loop (rec (if jump.isNone then .ready else .done) jump)) ∧
          (W3.putObj (w.heap.size + 1) (.loop (rec (if jump.isNone then .ready else .done) jump))).heap[w.heap.size]? = some (.deferred (some [])) := fun jump W3 hk3 => by
        have hl3 := hk3.2.trans hl2
        have := run_endRound (P := P) jump hl3
        rw [hrec] at this ⊢
        exact ⟨this, by rw [hrec] at hl3; exact hl3, World.putObj_heap_same (Array.getElem?_eq_some_iff.1 hl3).1, (World.putObj_heap_other (by omega)).trans (hk3.1.trans hk2)⟩
      rintro e a3 W3 hp3
      cases e with
      | normal =>
        obtain ⟨hr, hl3, hl4, hk4⟩ := fin none W3 hp3.1
        exact ⟨_, _, hr, .inl ⟨rfl, hI.putObj _ hp3.2 (by omega) hl3 rfl, hl4, hk4⟩⟩
      | ret =>
        obtain ⟨hr, hl3, hl4, hk4⟩ := fin (some .ret) W3 hp3.1
        exact ⟨_, _, hr, .inr ⟨rfl, .ret, (hIx _).putObj _ hp3.2 (by omega) hl3 rfl, hl4, hk4⟩⟩
      | exit id =>
        obtain ⟨hr, hl3, hl4, hk4⟩ := fin (some (.exit id)) W3 hp3.1
        exact ⟨_, _, hr, .inr ⟨rfl, .exit id, (hIx _).putObj _ hp3.2 (by omega) hl3 rfl, hl4, hk4⟩⟩
      | goto t =>
        obtain ⟨hr, hl3, hl4, hk4⟩ := fin (some (.goto t)) W3 hp3.1
        exact ⟨_, _, hr, .inr ⟨rfl, .goto t, (hIx _).putObj _ hp3.2 (by omega) hl3 rfl, hl4, hk4⟩⟩
      | panic ch => exact hp3.elim
      | outgrown => exact hp3.elim
    | ret => exact hpost.elim
    | exit id => exact hpost.elim
    | goto t => exact hpost.elim
    | panic ch => exact hpost.elim
    | outgrown => exact hpost.elim
  · rintro e W2 ⟨⟨v, rfl⟩, (⟨hi, hl, hk⟩ | ⟨i, hiN, c, hi, hl, hk⟩)⟩
    · exact ⟨none, _, by have := run_endLoop (P := P) hl (by rw [hrec]; simp); rw [hrec] at this; exact this, hdone _ (hI.putObj _ hi (by omega) hl rfl) ((World.putObj_heap_other (by omega)).trans hk)⟩
    · exact ⟨some c, _, by have := run_endLoop (P := P) hl (by rw [hrec]; simp); rw [hrec] at this; exact this, wpIn_wide.2 (hstop c i _ hiN ((hIx c).putObj _ hi (by omega) hl rfl) ((World.putObj_heap_other (by omega)).trans hk))⟩
end Go.Proofs.YtcndphefomigeaaDoor
