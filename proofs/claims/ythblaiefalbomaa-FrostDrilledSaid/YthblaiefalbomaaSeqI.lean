/- A range over a function whose iterator keeps blocks of its own between rounds: the iterator's contract, the loop's law, and the range of blocks that a body leaves alone. -/
import Derived.Test.YthblaiefalbomaaFen
import Derived.Test.YthblaiefalbomaaBus
set_option linter.unusedVariables false
set_option linter.unusedSimpArgs false
set_option linter.unnecessarySimpa false
namespace Go.Proofs.Ythblaiefalbomaa
open Go.RowKit Go.Shelf

/-- The blocks from lo below hi lie as they lay. -/
def KeepR (lo hi : Nat) (A B : World) : Prop := hi ≤ B.heap.size ∧ ∀ g, lo ≤ g → g < hi → B.heap[g]? = A.heap[g]?
theorem KeepR.mono {lo hi lo' hi' : Nat} {A B : World} (h : KeepR lo hi A B) (h1 : lo ≤ lo') (h2 : hi' ≤ hi) : KeepR lo' hi' A B := ⟨Nat.le_trans h2 h.1, fun g a b => h.2 g (by omega) (by omega)⟩
/-- They are none of the walk's business: as they lay in W0. -/
def rkeep (lo hi : Nat) (W0 : World) : Res :=
  ⟨true, fun x => lo ≤ x ∧ x < hi, fun w => KeepR lo hi W0 w, fun A B _ hg hr h => ⟨Nat.le_trans h.1 hg.size, fun g a b => (hg.block g (Nat.lt_of_lt_of_le b h.1) (fun e => hr g e.symm ⟨a, b⟩)).trans (h.2 g a b)⟩⟩
section
variable {w0 A B : World} {L : List Res} {sd : Nat}
theorem Bun.rekeep {lo hi : Nat} {W0 : World} (h : Bun w0 (rkeep lo hi W0 :: L) A) {r : Option Nat} (hg : A.grownBy B r) (hr : ∀ g, r = some g → lo ≤ g ∧ g < hi) : Bun w0 (rkeep lo hi B :: L) B := by
  have hk : KeepR lo hi W0 A := h.all _ (.head _)
  refine h.wr rfl hg (fun g e => hr g e) ⟨Nat.le_trans hk.1 hg.size, fun _ _ _ => rfl⟩ fun g e => ⟨.inl e, ?_⟩
  have := e.2; have := hk.1; have := hg.size
  omega
theorem Bun.keep0 {lo hi : Nat} (h : Bun w0 L A) (hg : A.grownBy B none) (hlo : A.heap.size ≤ lo) (hhi : hi ≤ B.heap.size) : Bun w0 (rkeep lo hi B :: L) B :=
  h.add (rkeep lo hi B) hg ⟨hhi, fun _ _ _ => rfl⟩ fun g e => ⟨Nat.le_trans hlo e.1, Nat.lt_of_lt_of_le e.2 hhi⟩
theorem Bun.kept {lo hi : Nat} {W0 : World} (h : Bun w0 (rkeep lo hi W0 :: L) A) : KeepR lo hi W0 A := h.all _ (.head _)
theorem Bus.rekeep {lo hi : Nat} {W0 : World} (h : Bus w0 sd (rkeep lo hi W0 :: L) A) {r : Option Nat} (hg : A.grownBy B r) (hr : ∀ g, r = some g → lo ≤ g ∧ g < hi) : Bus w0 sd (rkeep lo hi B :: L) B := by
  have hk : KeepR lo hi W0 A := h.all _ (.head _)
  refine h.wr rfl hg (fun g e => hr g e) ⟨Nat.le_trans hk.1 hg.size, fun _ _ _ => rfl⟩ fun g e => ⟨.inl e, ?_⟩
  have := e.2; have := hk.1; have := hg.size
  omega
theorem Bus.keep0 {lo hi : Nat} (h : Bus w0 sd L A) (hg : A.grownBy B none) (hlo : A.heap.size ≤ lo) (hhi : hi ≤ B.heap.size) : Bus w0 sd (rkeep lo hi B :: L) B :=
  h.add (rkeep lo hi B) hg ⟨hhi, fun _ _ _ => rfl⟩ fun g e => ⟨Nat.le_trans hlo e.1, Nat.lt_of_lt_of_le e.2 hhi⟩
theorem Bus.kept {lo hi : Nat} {W0 : World} (h : Bus w0 sd (rkeep lo hi W0 :: L) A) : KeepR lo hi W0 A := h.all _ (.head _)
end

/-- The iterator hands out N values in a row; it writes blocks of its own alone (from its start below hi), which a round leaves as they are. -/
def SeqI (P : Program) (gf : Nat) (lb : Array Value) (N : Nat) (el : Nat → Array Value) (Hold : World → Prop) : Prop :=
  ∀ (l : Nat) (J Jx : Nat → Nat → World → Prop) (W : World),
    (∀ hi i A B r, J hi i A → A.grownBy B r → (∀ g, r = some g → W.heap.size ≤ g ∧ g < hi) → J hi i B) →
    (∀ hi i A B r, Jx hi i A → A.grownBy B r → (∀ g, r = some g → W.heap.size ≤ g ∧ g < hi) → Jx hi i B) →
    (∀ hi i A, J hi i A → Hold A ∧ hi ≤ A.heap.size) →
    (∀ hi i A, J hi i A → i < N → W.heap.size ≤ hi → YieldAt Fence.wide 0 P l (el i) A fun e B =>
      (e = .returned (.bool true) ∧ J hi (i + 1) B ∧ KeepR W.heap.size hi A B) ∨ (e = .returned (.bool false) ∧ Jx hi (i + 1) B)) →
    (∀ hi B, W.grownBy B none → B.heap.size = hi → J hi 0 B) →
    Calls P gf (#[.func (.yield l) #[] #[]] ++ lb) W fun e B => (∃ v, e = .returned v) ∧ ∃ hi, W.heap.size ≤ hi ∧ (J hi N B ∨ ∃ i, i ≤ N ∧ Jx hi i B)

def iPost (lo hi : Nat) (I : Nat → Nat → World → Prop) (Ix : Code → Nat → Nat → World → Prop) (i : Nat) (W : World) : Exit → Act → World → Prop
  | .normal, _, W' => KeepR lo hi W W' ∧ I hi i W'
  | .ret, _, W' => KeepR lo hi W W' ∧ Ix .ret hi i W'
  | .exit id, _, W' => KeepR lo hi W W' ∧ Ix (.exit id) hi i W'
  | .goto t, _, W' => KeepR lo hi W W' ∧ Ix (.goto t) hi i W'
  | .panic _, _, _ => False
  | .outgrown, _, _ => False
theorem iPost_out {lo hi : Nat} {I : Nat → Nat → World → Prop} {Ix : Code → Nat → Nat → World → Prop} {i : Nat} {W : World} : ¬ LetsOut (iPost lo hi I Ix i W) := fun ⟨_, _, h⟩ => h
theorem then_out {K : Act → World → Prop} {Q : Exit → Act → World → Prop} (h : ¬ LetsOut Q) : ¬ LetsOut (Exit.then K Q) := fun ⟨a, w, h'⟩ => h ⟨a, w, h'⟩

/-- The loop's law. -/
theorem wp_rangeI {P : Program} {g : Operand} {ps : Array Tmp} {assign body : Code} {Q : Exit → Act → World → Prop} {a : Act} {w : World} {gf : Nat} {lb : Array Value} {N : Nat} {el : Nat → Array Value} {Hold : World → Prop}
    (hg : a.eval g = .func (.func gf) #[] lb) (eg : ∀ args w, (callFunc gf args).run P w = .ok (.enter gf args) w) (hps : ∀ i, (el i).size = ps.size) (hseq : SeqI P gf lb N el Hold)
    (I : Nat → Nat → World → Prop) (Ix : Code → Nat → Nat → World → Prop)
    (hI : ∀ hi i A B r, I hi i A → A.grownBy B r → (∀ g, r = some g → w.heap.size ≤ g ∧ g < hi) → I hi i B)
    (hIx : ∀ c hi i A B r, Ix c hi i A → A.grownBy B r → (∀ g, r = some g → w.heap.size ≤ g ∧ g < hi) → Ix c hi i B)
    (hH : ∀ hi i A, I hi i A → Hold A ∧ hi ≤ A.heap.size)
    (h0 : ∀ hi B, w.grownBy B none → B.heap.size = hi → w.heap.size + 2 ≤ hi → I hi 0 B)
    (hround : ∀ (l hi i : Nat) (W : World), I hi i W → i < N → w.heap.size + 2 ≤ hi → hi ≤ W.heap.size →
      assign.wpIn (Fence.wide.inRound l) 0 P (Exit.then (fun a' W' => KeepR w.heap.size hi W W' ∧ (∀ W2, W'.grownBy W2 (some (w.heap.size + 1)) → body.wpIn (Fence.wide.inRound l) 0 P (iPost w.heap.size hi I Ix (i + 1) W2) a' W2)) (fun _ _ _ => False))
        { tmps := (ps.zip (el i)).foldl (fun t (p, v) => t.setIfInBounds p v) a.tmps, defers := [] } W)
    (hdone : ∀ hi W, w.heap.size + 2 ≤ hi → I hi N W → W.heap[w.heap.size]? = some (.deferred (some [])) → Q .normal { a with defers := { target := .collected w.heap.size, args := #[] } :: a.defers } W)
    (hstop : ∀ c hi i W, w.heap.size + 2 ≤ hi → i ≤ N → Ix c hi i W → W.heap[w.heap.size]? = some (.deferred (some [])) → c.wp P Q { a with defers := { target := .collected w.heap.size, args := #[] } :: a.defers } W) :
    (Code.rangeFunc g ps assign body).wp P Q a w := by
  refine wpIn_wide (n := 0).1 (wpIn_rangeFunc ?_)
  intro fn hfn
  obtain ⟨rec, hrec⟩ : ∃ rec : LoopState → Option Code → Loop, rec = fun st pe => { state := st, pending := pe, fn, tmps := a.tmps, params := ps, assign, body, defers := w.heap.size } := ⟨_, rfl⟩
  obtain ⟨W1, hW1⟩ : ∃ W1, (w.alloc (.deferred (some []))).alloc (.loop (rec .ready none)) = W1 := ⟨_, rfl⟩
  have hL1 : W1.heap[w.heap.size + 1]? = some (.loop (rec .ready none)) := by
    rw [← hW1]; have := World.alloc_heap_new (w.alloc (.deferred (some []))) (.loop (rec .ready none)); rwa [World.size_alloc] at this
  have hK1 : W1.heap[w.heap.size]? = some (.deferred (some [])) := by
    rw [← hW1]; exact (Below.heap_alloc _ _ _ (by simp)).trans (World.alloc_heap_new w _)
  have hg1 : w.grownBy W1 none := by rw [← hW1]; exact gb_alloc (gb_alloc (gb_refl _ _) _) _
  have hs1 : W1.heap.size = w.heap.size + 2 := by rw [← hW1]; simp
  refine ⟨w.heap.size + 1, [{ target := .collected w.heap.size, args := #[] }], W1, { target := .fn (.func gf) lb, args := #[.func (.yield (w.heap.size + 1)) #[] #[]] }, W1, gf,
    #[.func (.yield (w.heap.size + 1)) #[] #[]] ++ lb, W1, ?_, ?_, fun _ _ => trivial, ?_, by simp [Fence.wide], ?_⟩
  · rw [← hW1, hrec]; exact run_enterLoop_outer _ _ _ _ _
  · simp only [resolve, hg]
    simp [go_sem]
  · simp [invoke, go_sem, eg]
  have keep2 : ∀ {A B : World} {r : Option Nat} {g : Nat} {o : Obj}, A.heap[g]? = some o → A.grownBy B r → (∀ x, r = some x → W1.heap.size ≤ x) → g < W1.heap.size → B.heap[g]? = some o := fun {A B r g o} h hg hr hlt =>
    (hg.block g (Array.getElem?_eq_some_iff.1 h).1 (fun e => by have := hr g e.symm; omega)).trans h
  refine callsIn_wide.2 ((hseq (w.heap.size + 1)
    (fun hi i W => I hi i W ∧ W.heap[w.heap.size + 1]? = some (.loop (rec .ready none)) ∧ W.heap[w.heap.size]? = some (.deferred (some [])))
    (fun hi i W => ∃ c, Ix c hi i W ∧ W.heap[w.heap.size + 1]? = some (.loop (rec .done (some c))) ∧ W.heap[w.heap.size]? = some (.deferred (some [])))
    W1 (fun hi i A B r hs hg' hr => ⟨hI hi i A B r hs.1 hg' (fun x e => by have := hr x e; omega), keep2 hs.2.1 hg' (fun x e => (hr x e).1) (by omega), keep2 hs.2.2 hg' (fun x e => (hr x e).1) (by omega)⟩)
    (fun hi i A B r hs hg' hr => by
      obtain ⟨c, hc, hl, hk⟩ := hs
      exact ⟨c, hIx c hi i A B r hc hg' (fun x e => by have := hr x e; omega), keep2 hl hg' (fun x e => (hr x e).1) (by omega), keep2 hk hg' (fun x e => (hr x e).1) (by omega)⟩)
    (fun hi i A hs => hH hi i A hs.1) ?_
    (fun hi B hg' hh => ⟨h0 hi B (gb_trans hg1 hg') hh (by have := hg'.size; omega), keep2 hL1 hg' (fun x e => by cases e) (by omega), keep2 hK1 hg' (fun x e => by cases e) (by omega)⟩)).mono ?_)
  · rintro hi i W ⟨hi', hl, hk⟩ hlen hhi
    have hlt : w.heap.size + 1 < W.heap.size := (Array.getElem?_eq_some_iff.1 hl).1
    have hy := run_yield (P := P) (args := el i) hl (by rw [hrec]; exact hps i)
    rw [hrec] at hy
    have hhW : hi ≤ W.heap.size := (hH hi i W hi').2
    refine ⟨fn, _, assign, body, hy, roundIn_of_wpIn hfn (wpIn_mono (hround (w.heap.size + 1) hi i W hi' hlen (by omega) hhW) ?_)⟩
    clear hy
    intro e a' Wa hpost
    cases e with
    | normal =>
      obtain ⟨hkr, hb⟩ := hpost
      have hla := (hkr.2 (w.heap.size + 1) (by omega) (by omega)).trans hl
      have hka := (hkr.2 w.heap.size (by omega) (by omega)).trans hk
      refine ⟨_, run_beginRound hla (by rw [hrec]), ?_⟩
      have hlta : w.heap.size + 1 < Wa.heap.size := (Array.getElem?_eq_some_iff.1 hla).1
      have hl2 : (Wa.putObj (w.heap.size + 1) (.loop { rec .ready none with state := .busy })).heap[w.heap.size + 1]? = some (.loop { rec .ready none with state := .busy }) := World.putObj_heap_same hlta
      have hk2 : (Wa.putObj (w.heap.size + 1) (.loop { rec .ready none with state := .busy })).heap[w.heap.size]? = some (.deferred (some [])) := (World.putObj_heap_other (by omega)).trans hka
      refine wpIn_mono (hb _ (grownBy_putObj' _ _ _)) ?_
      have fin : ∀ (jump : Option Code) (W3 : World), KeepR w.heap.size hi (Wa.putObj (w.heap.size + 1) (.loop { rec .ready none with state := .busy })) W3 →
          (Instr.endRound (w.heap.size + 1) jump).run P W3 = .ok (.bool jump.isNone) (W3.putObj (w.heap.size + 1) (.loop (rec (if jump.isNone then .ready else .done) jump))) ∧
          W3.heap[w.heap.size + 1]? = some (.loop { rec .ready none with state := .busy }) ∧
          (W3.putObj (w.heap.size + 1) (.loop (rec (if jump.isNone then .ready else .done) jump))).heap[w.heap.size + 1]? = some (.loop (rec (if jump.isNone then .ready else .done) jump)) ∧
          (W3.putObj (w.heap.size + 1) (.loop (rec (if jump.isNone then .ready else .done) jump))).heap[w.heap.size]? = some (.deferred (some [])) ∧
          KeepR W1.heap.size hi W (W3.putObj (w.heap.size + 1) (.loop (rec (if jump.isNone then .ready else .done) jump))) := fun jump W3 hk3 => by
        have hl3 := (hk3.2 (w.heap.size + 1) (by omega) (by omega)).trans hl2
        have := run_endRound (P := P) jump hl3
        rw [hrec] at this ⊢
        refine ⟨this, by rw [hrec] at hl3; exact hl3, World.putObj_heap_same (Array.getElem?_eq_some_iff.1 hl3).1, (World.putObj_heap_other (by omega)).trans ((hk3.2 w.heap.size (by omega) (by omega)).trans hk2), ?_, fun g h1 h2 => ?_⟩
        · have := hk3.1; simpa [World.putObj] using this
        · refine (World.putObj_heap_other (by omega)).trans ((hk3.2 g (by omega) h2).trans ((World.putObj_heap_other (by omega)).trans (hkr.2 g (by omega) h2)))
      rintro e a3 W3 hp3
      cases e with
      | normal =>
        obtain ⟨hr, hl3, hl4, hk4, hk5⟩ := fin none W3 hp3.1
        exact ⟨_, _, hr, .inl ⟨rfl, ⟨hI hi _ _ _ _ hp3.2 (grownBy_putObj' _ _ _) (fun x e => by cases e; omega), hl4, hk4⟩, hk5⟩⟩
      | ret =>
        obtain ⟨hr, hl3, hl4, hk4, hk5⟩ := fin (some .ret) W3 hp3.1
        exact ⟨_, _, hr, .inr ⟨rfl, .ret, hIx _ hi _ _ _ _ hp3.2 (grownBy_putObj' _ _ _) (fun x e => by cases e; omega), hl4, hk4⟩⟩
      | exit id =>
        obtain ⟨hr, hl3, hl4, hk4, hk5⟩ := fin (some (.exit id)) W3 hp3.1
        exact ⟨_, _, hr, .inr ⟨rfl, .exit id, hIx _ hi _ _ _ _ hp3.2 (grownBy_putObj' _ _ _) (fun x e => by cases e; omega), hl4, hk4⟩⟩
      | goto t =>
        obtain ⟨hr, hl3, hl4, hk4, hk5⟩ := fin (some (.goto t)) W3 hp3.1
        exact ⟨_, _, hr, .inr ⟨rfl, .goto t, hIx _ hi _ _ _ _ hp3.2 (grownBy_putObj' _ _ _) (fun x e => by cases e; omega), hl4, hk4⟩⟩
      | panic ch => exact hp3.elim
      | outgrown => exact hp3.elim
    | ret => exact hpost.elim
    | exit id => exact hpost.elim
    | goto t => exact hpost.elim
    | panic ch => exact hpost.elim
    | outgrown => exact hpost.elim
  · rintro e W2 ⟨⟨v, rfl⟩, hi, hhi, (⟨hi', hl, hk⟩ | ⟨i, hiN, c, hi', hl, hk⟩)⟩
    · exact ⟨none, _, by have := run_endLoop (P := P) hl (by rw [hrec]; simp); rw [hrec] at this; exact this, hdone hi _ (by omega) (hI hi _ _ _ _ hi' (grownBy_putObj' _ _ _) (fun x e => by cases e; omega)) ((World.putObj_heap_other (by omega)).trans hk)⟩
    · exact ⟨some c, _, by have := run_endLoop (P := P) hl (by rw [hrec]; simp); rw [hrec] at this; exact this, wpIn_wide.2 (hstop c hi i _ (by omega) hiN (hIx c hi _ _ _ _ hi' (grownBy_putObj' _ _ _) (fun x e => by cases e; omega)) ((World.putObj_heap_other (by omega)).trans hk))⟩
end Go.Proofs.Ythblaiefalbomaa
