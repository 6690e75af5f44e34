/- What walks that ax.py prints lean on: tests, elements of slices, slices that were handed in. -/
import Derived.Test.YtcndphefomigeaaDoorPG6
import Derived.Test.YtcndphefomigeaaDoorPMarks
import Derived.Test.YtcndphefomigeaaDoorPReg
import Derived.Deep.RegionHeld3
import Derived.LoopN
import Derived.Lib.MinMax
import Derived.BigQuiet
import Derived.Deep.QuietTactic
import Derived.Test.YtcndphefomigeaaDoorPSeq
import Derived.OrdersIn
import Derived.Test.YtcndphefomigeaaDoorPG5
import Derived.OwnWalk
set_option linter.unusedVariables false
set_option linter.unusedSimpArgs false
set_option linter.unnecessarySimpa false
namespace Go.Proofs.YtcndphefomigeaaDoor
open Go.RowKit

theorem beq_t {a b : Int} (h : a = b) : (a == b) = true := by rw [beq_iff_eq]; exact h
theorem beq_f {a b : Int} (h : ¬ a = b) : (a == b) = false := by rw [beq_eq_false_iff_ne]; exact h
theorem bne_f {a b : Int} (h : a = b) : (a != b) = false := by rw [bne, beq_t h]; rfl
theorem bne_t {a b : Int} (h : ¬ a = b) : (a != b) = true := by rw [bne, beq_f h]; rfl
theorem dec_f {p : Prop} [Decidable p] (h : ¬ p) : decide p = false := decide_eq_false h
theorem Sl.cells {α : Type} {enc : α → List Value} {sz lo hi n c x ox : Nat} {w : World} {l : List α} (h : Sl enc sz lo hi w (.slice (some ⟨x, ox, none⟩) n c) l) {i : Nat} {z : α} (hz : l[i]? = some z) :
    ∀ j u, (enc z)[j]? = some u → w.cell? ⟨x, ox + i * sz + j, none⟩ = some u := by
  have hi : i < l.length := (List.getElem?_eq_some_iff.1 hz).1
  obtain ⟨x', ox', c', ev, _, _, H⟩ := h.form (by omega)
  injection ev with e1 _ e2
  injection e1 with e1
  injection e1 with e3 e4
  subst e3 e4
  have := H i hi
  rw [(List.getElem?_eq_some_iff.1 hz).2] at this
  exact this
theorem Sl.addr {α : Type} {enc : α → List Value} {sz lo hi n c : Nat} {a : Option Addr} {w : World} {l : List α} (h : Sl enc sz lo hi w (.slice a n c) l) (h0 : 0 < l.length) : ∃ x ox, a = some ⟨x, ox, none⟩ := by
  obtain ⟨x, ox, c', ev, _⟩ := h.form h0
  injection ev with e1 _ _
  exact ⟨x, ox, e1⟩
theorem Bun.name {w0 A : World} {L : List Res} (h : Bun w0 L A) : ∃ x, A = x ∧ Bun w0 L x ∧ A.heap.size ≤ x.heap.size := ⟨A, rfl, h, Nat.le_refl _⟩
theorem Bus.name {w0 A : World} {sd : Nat} {L : List Res} (h : Bus w0 sd L A) : ∃ x, A = x ∧ Bus w0 sd L x ∧ A.heap.size ≤ x.heap.size := ⟨A, rfl, h, Nat.le_refl _⟩
theorem Bun.sl0 {α : Type} {enc : α → List Value} {sz lo hi : Nat} {v : Value} {l : List α} {w0 : World} {L : List Res} (h : Bun w0 L w0) (hs : Sl enc sz lo hi w0 v l) (h2 : hi ≤ w0.heap.size) (hm : L.all (fun r => !r.mine) = true) : Bun w0 (rsl enc sz lo hi v l :: L) w0 := by
  have hm' : ∀ r ∈ L, r.mine = false := fun r hr => by have := List.all_eq_true.1 hm r hr; simpa using this
  refine ⟨fun r hr => ?_, fun r hr g hx => ?_, ?_, h.gb⟩
  · rcases List.mem_cons.1 hr with rfl | hr
    · exact hs
    · exact h.all r hr
  · rcases List.mem_cons.1 hr with rfl | hr
    · exact ⟨Nat.lt_of_lt_of_le hx.2 h2, fun e => by cases e⟩
    · exact h.bd r hr g hx
  · rw [List.pairwise_cons]
    exact ⟨(fun x hx hmm => by
      rw [hm' x hx] at hmm
      rcases hmm with h1 | h1 <;> cases h1), h.dis⟩
end Go.Proofs.YtcndphefomigeaaDoor
/- The cells of a box in hand, all at once; one cell; a box's new content told. -/
namespace Go.Proofs.YtcndphefomigeaaDoor
open Go.RowKit

section
variable {w0 A : World} {L : List Res} 
theorem Bun.cl (h : Bun w0 L A) (i j : Nat) {g : Nat} {t : TypeId} {cs : Array Value} {u : Value} (hi : L[i]? = some (rbox g t cs)) (hj : cs[j]? = some u) : A.cell? ⟨g, j, none⟩ = some u := (Bk.cell (h.at i hi) j).trans hj
theorem Bun.fz (h : Bun w0 L A) (i j : Nat) {g : Nat} {t : TypeId} {cs : Array Value} (hi : L[i]? = some (rbox g t cs)) : A.frozen? ⟨g, j, none⟩ = false := Bk.frozen (h.at i hi) j
theorem Bun.nf (cs' : Array Value) {g : Nat} {t : TypeId} {cs : Array Value} (h : Bun w0 (rbox g t cs :: L) A) (e : cs = cs') : Bun w0 (rbox g t cs' :: L) A := e ▸ h
theorem Bk.bx1 {g : Nat} {t : TypeId} {a0 : Value} (b : Bk A g t #[a0]) : (A.cell? ⟨g, 0, none⟩ = some a0) ∧ (A.frozen? ⟨g, 0, none⟩ = false) ∧ g < A.heap.size := ⟨b.cell 0, b.frozen 0, b.lt⟩
theorem Bun.bx1 (h : Bun w0 L A) (i : Nat) {g : Nat} {t : TypeId} {a0 : Value} (hi : L[i]? = some (rbox g t #[a0])) : (A.cell? ⟨g, 0, none⟩ = some a0) ∧ (A.frozen? ⟨g, 0, none⟩ = false) ∧ g < A.heap.size := Bk.bx1 (h.at i hi)
theorem Bk.bx2 {g : Nat} {t : TypeId} {a0 a1 : Value} (b : Bk A g t #[a0, a1]) : (A.cell? ⟨g, 0, none⟩ = some a0 ∧ A.cell? ⟨g, 1, none⟩ = some a1) ∧ (A.frozen? ⟨g, 0, none⟩ = false ∧ A.frozen? ⟨g, 1, none⟩ = false) ∧ g < A.heap.size := ⟨⟨b.cell 0, b.cell 1⟩, ⟨b.frozen 0, b.frozen 1⟩, b.lt⟩
theorem Bun.bx2 (h : Bun w0 L A) (i : Nat) {g : Nat} {t : TypeId} {a0 a1 : Value} (hi : L[i]? = some (rbox g t #[a0, a1])) : (A.cell? ⟨g, 0, none⟩ = some a0 ∧ A.cell? ⟨g, 1, none⟩ = some a1) ∧ (A.frozen? ⟨g, 0, none⟩ = false ∧ A.frozen? ⟨g, 1, none⟩ = false) ∧ g < A.heap.size := Bk.bx2 (h.at i hi)
theorem Bk.bx3 {g : Nat} {t : TypeId} {a0 a1 a2 : Value} (b : Bk A g t #[a0, a1, a2]) : (A.cell? ⟨g, 0, none⟩ = some a0 ∧ A.cell? ⟨g, 1, none⟩ = some a1 ∧ A.cell? ⟨g, 2, none⟩ = some a2) ∧ (A.frozen? ⟨g, 0, none⟩ = false ∧ A.frozen? ⟨g, 1, none⟩ = false ∧ A.frozen? ⟨g, 2, none⟩ = false) ∧ g < A.heap.size := ⟨⟨b.cell 0, b.cell 1, b.cell 2⟩, ⟨b.frozen 0, b.frozen 1, b.frozen 2⟩, b.lt⟩
theorem Bun.bx3 (h : Bun w0 L A) (i : Nat) {g : Nat} {t : TypeId} {a0 a1 a2 : Value} (hi : L[i]? = some (rbox g t #[a0, a1, a2])) : (A.cell? ⟨g, 0, none⟩ = some a0 ∧ A.cell? ⟨g, 1, none⟩ = some a1 ∧ A.cell? ⟨g, 2, none⟩ = some a2) ∧ (A.frozen? ⟨g, 0, none⟩ = false ∧ A.frozen? ⟨g, 1, none⟩ = false ∧ A.frozen? ⟨g, 2, none⟩ = false) ∧ g < A.heap.size := Bk.bx3 (h.at i hi)
theorem Bk.bx4 {g : Nat} {t : TypeId} {a0 a1 a2 a3 : Value} (b : Bk A g t #[a0, a1, a2, a3]) : (A.cell? ⟨g, 0, none⟩ = some a0 ∧ A.cell? ⟨g, 1, none⟩ = some a1 ∧ A.cell? ⟨g, 2, none⟩ = some a2 ∧ A.cell? ⟨g, 3, none⟩ = some a3) ∧ (A.frozen? ⟨g, 0, none⟩ = false ∧ A.frozen? ⟨g, 1, none⟩ = false ∧ A.frozen? ⟨g, 2, none⟩ = false ∧ A.frozen? ⟨g, 3, none⟩ = false) ∧ g < A.heap.size := ⟨⟨b.cell 0, b.cell 1, b.cell 2, b.cell 3⟩, ⟨b.frozen 0, b.frozen 1, b.frozen 2, b.frozen 3⟩, b.lt⟩
theorem Bun.bx4 (h : Bun w0 L A) (i : Nat) {g : Nat} {t : TypeId} {a0 a1 a2 a3 : Value} (hi : L[i]? = some (rbox g t #[a0, a1, a2, a3])) : (A.cell? ⟨g, 0, none⟩ = some a0 ∧ A.cell? ⟨g, 1, none⟩ = some a1 ∧ A.cell? ⟨g, 2, none⟩ = some a2 ∧ A.cell? ⟨g, 3, none⟩ = some a3) ∧ (A.frozen? ⟨g, 0, none⟩ = false ∧ A.frozen? ⟨g, 1, none⟩ = false ∧ A.frozen? ⟨g, 2, none⟩ = false ∧ A.frozen? ⟨g, 3, none⟩ = false) ∧ g < A.heap.size := Bk.bx4 (h.at i hi)
theorem Bk.bx5 {g : Nat} {t : TypeId} {a0 a1 a2 a3 a4 : Value} (b : Bk A g t #[a0, a1, a2, a3, a4]) : (A.cell? ⟨g, 0, none⟩ = some a0 ∧ A.cell? ⟨g, 1, none⟩ = some a1 ∧ A.cell? ⟨g, 2, none⟩ = some a2 ∧ A.cell? ⟨g, 3, none⟩ = some a3 ∧ A.cell? ⟨g, 4, none⟩ = some a4) ∧ (A.frozen? ⟨g, 0, none⟩ = false ∧ A.frozen? ⟨g, 1, none⟩ = false ∧ A.frozen? ⟨g, 2, none⟩ = false ∧ A.frozen? ⟨g, 3, none⟩ = false ∧ A.frozen? ⟨g, 4, none⟩ = false) ∧ g < A.heap.size := ⟨⟨b.cell 0, b.cell 1, b.cell 2, b.cell 3, b.cell 4⟩, ⟨b.frozen 0, b.frozen 1, b.frozen 2, b.frozen 3, b.frozen 4⟩, b.lt⟩
theorem Bun.bx5 (h : Bun w0 L A) (i : Nat) {g : Nat} {t : TypeId} {a0 a1 a2 a3 a4 : Value} (hi : L[i]? = some (rbox g t #[a0, a1, a2, a3, a4])) : (A.cell? ⟨g, 0, none⟩ = some a0 ∧ A.cell? ⟨g, 1, none⟩ = some a1 ∧ A.cell? ⟨g, 2, none⟩ = some a2 ∧ A.cell? ⟨g, 3, none⟩ = some a3 ∧ A.cell? ⟨g, 4, none⟩ = some a4) ∧ (A.frozen? ⟨g, 0, none⟩ = false ∧ A.frozen? ⟨g, 1, none⟩ = false ∧ A.frozen? ⟨g, 2, none⟩ = false ∧ A.frozen? ⟨g, 3, none⟩ = false ∧ A.frozen? ⟨g, 4, none⟩ = false) ∧ g < A.heap.size := Bk.bx5 (h.at i hi)
theorem Bk.bx6 {g : Nat} {t : TypeId} {a0 a1 a2 a3 a4 a5 : Value} (b : Bk A g t #[a0, a1, a2, a3, a4, a5]) : (A.cell? ⟨g, 0, none⟩ = some a0 ∧ A.cell? ⟨g, 1, none⟩ = some a1 ∧ A.cell? ⟨g, 2, none⟩ = some a2 ∧ A.cell? ⟨g, 3, none⟩ = some a3 ∧ A.cell? ⟨g, 4, none⟩ = some a4 ∧ A.cell? ⟨g, 5, none⟩ = some a5) ∧ (A.frozen? ⟨g, 0, none⟩ = false ∧ A.frozen? ⟨g, 1, none⟩ = false ∧ A.frozen? ⟨g, 2, none⟩ = false ∧ A.frozen? ⟨g, 3, none⟩ = false ∧ A.frozen? ⟨g, 4, none⟩ = false ∧ A.frozen? ⟨g, 5, none⟩ = false) ∧ g < A.heap.size := ⟨⟨b.cell 0, b.cell 1, b.cell 2, b.cell 3, b.cell 4, b.cell 5⟩, ⟨b.frozen 0, b.frozen 1, b.frozen 2, b.frozen 3, b.frozen 4, b.frozen 5⟩, b.lt⟩
theorem Bun.bx6 (h : Bun w0 L A) (i : Nat) {g : Nat} {t : TypeId} {a0 a1 a2 a3 a4 a5 : Value} (hi : L[i]? = some (rbox g t #[a0, a1, a2, a3, a4, a5])) : (A.cell? ⟨g, 0, none⟩ = some a0 ∧ A.cell? ⟨g, 1, none⟩ = some a1 ∧ A.cell? ⟨g, 2, none⟩ = some a2 ∧ A.cell? ⟨g, 3, none⟩ = some a3 ∧ A.cell? ⟨g, 4, none⟩ = some a4 ∧ A.cell? ⟨g, 5, none⟩ = some a5) ∧ (A.frozen? ⟨g, 0, none⟩ = false ∧ A.frozen? ⟨g, 1, none⟩ = false ∧ A.frozen? ⟨g, 2, none⟩ = false ∧ A.frozen? ⟨g, 3, none⟩ = false ∧ A.frozen? ⟨g, 4, none⟩ = false ∧ A.frozen? ⟨g, 5, none⟩ = false) ∧ g < A.heap.size := Bk.bx6 (h.at i hi)
theorem Bun.pt2 {g : Nat} {t : TypeId} {a0 a1 : Value} (h : Bun w0 (rbox g t #[a0, a1] :: L) A) (u0 u1 : Value) : Bun w0 (rbox g t #[u0, u1] :: L) (World.setCell (World.setCell A ⟨g, 0, none⟩ u0) ⟨g, 1, none⟩ u1) := by
  simpa using ((h.set 0 u0).set 1 u1)
end
end Go.Proofs.YtcndphefomigeaaDoor
/- Inside a round of a range over a function: a region that draws, walked as elsewhere. -/
namespace Go.Proofs.YtcndphefomigeaaDoor
open Go.RowKit

section
variable {P : Program} {ops : Array Oper} {Q : Exit → Act → World → Prop} {l n : Nat}
end
end Go.Proofs.YtcndphefomigeaaDoor
/- A range over a function whose iterator keeps blocks of its own between rounds: the iterator's contract, the loop's law, and the range of blocks that a body leaves alone. -/
namespace Go.Proofs.YtcndphefomigeaaDoor
open Go.RowKit Go.Shelf

/-- The blocks from lo below hi lie as they lay. -/
def KeepR (lo hi : Nat) (A B : World) : Prop := hi ≤ B.heap.size ∧ ∀ g, lo ≤ g → g < hi → B.heap[g]? = A.heap[g]?
theorem KeepR.mono {lo hi lo' hi' : Nat} {A B : World} (h : KeepR lo hi A B) (h1 : lo ≤ lo') (h2 : hi' ≤ hi) : KeepR lo' hi' A B := ⟨Nat.le_trans h2 h.1, fun g a b => h.2 g (by omega) (by omega)⟩
/-- They are none of the walk's business: as they lay in W0. -/
def rkeep (lo hi : Nat) (W0 : World) : Res :=
  ⟨true, fun x => lo ≤ x ∧ x < hi, fun w => KeepR lo hi W0 w, fun A B _ hg hr h => ⟨Nat.le_trans h.1 hg.size, fun g a b => (hg.block g (Nat.lt_of_lt_of_le b h.1) (fun e => hr g e.symm ⟨a, b⟩)).trans (h.2 g a b)⟩⟩
section
variable {w0 A B : World} {L : List Res} {sd : Nat}
theorem Bun.rekeep {lo hi : Nat} {W0 : World} (h : Bun w0 (rkeep lo hi W0 :: L) A) {r : Option Nat} (hg : A.grownBy B r) (hr : ∀ g, r = some g → lo ≤ g ∧ g < hi) : Bun w0 (rkeep lo hi B :: L) B := by
  have hk : KeepR lo hi W0 A := h.all _ (.head _)
  refine h.wr rfl hg (fun g e => hr g e) ⟨Nat.le_trans hk.1 hg.size, fun _ _ _ => rfl⟩ fun g e => ⟨.inl e, ?_⟩
  have := e.2; have := hk.1; have := hg.size
  omega
theorem Bun.kept {lo hi : Nat} {W0 : World} (h : Bun w0 (rkeep lo hi W0 :: L) A) : KeepR lo hi W0 A := h.all _ (.head _)
theorem Bus.rekeep {lo hi : Nat} {W0 : World} (h : Bus w0 sd (rkeep lo hi W0 :: L) A) {r : Option Nat} (hg : A.grownBy B r) (hr : ∀ g, r = some g → lo ≤ g ∧ g < hi) : Bus w0 sd (rkeep lo hi B :: L) B := by
  have hk : KeepR lo hi W0 A := h.all _ (.head _)
  refine h.wr rfl hg (fun g e => hr g e) ⟨Nat.le_trans hk.1 hg.size, fun _ _ _ => rfl⟩ fun g e => ⟨.inl e, ?_⟩
  have := e.2; have := hk.1; have := hg.size
  omega
theorem Bus.kept {lo hi : Nat} {W0 : World} (h : Bus w0 sd (rkeep lo hi W0 :: L) A) : KeepR lo hi W0 A := h.all _ (.head _)
end

end Go.Proofs.YtcndphefomigeaaDoor
/- Marks of ranges over a function as a resource; a walk's stop; loops and returns with marks. -/
namespace Go.Proofs.YtcndphefomigeaaDoor
open Go.RowKit Go.Shelf

/-- No panic. -/
def calmQ (Q : Exit → Act → World → Prop) : Exit → Act → World → Prop
  | .panic _, _, _ => False
  | .outgrown, _, _ => False
  | e, a, w => Q e a w
theorem calmQ_le {Q : Exit → Act → World → Prop} (e : Exit) (a : Act) (w : World) (h : calmQ Q e a w) : Q e a w := by
  cases e <;> first | exact h | exact h.elim
/-- A block that is read alone. -/
def rfix (g : Nat) (t : TypeId) (cs : Array Value) : Res := ⟨false, fun x => x = g, fun w => Bk w g t cs, fun _ _ _ hg hr h => Bk.gb h hg (fun e => hr g e.symm rfl)⟩
theorem Bun.fix0 {w0 : World} {L : List Res} {g : Nat} {t : TypeId} {cs : Array Value} (h : Bun w0 L w0) (hs : Bk w0 g t cs) (hm : L.all (fun r => !r.mine) = true) : Bun w0 (rfix g t cs :: L) w0 := by
  have hm' : ∀ r ∈ L, r.mine = false := fun r hr => by have := List.all_eq_true.1 hm r hr; simpa using this
  refine ⟨fun r hr => ?_, fun r hr g hx => ?_, ?_, h.gb⟩
  · rcases List.mem_cons.1 hr with rfl | hr
    · exact hs
    · exact h.all r hr
  · rcases List.mem_cons.1 hr with rfl | hr
    · cases hx; exact ⟨hs.lt, fun e => by cases e⟩
    · exact h.bd r hr g hx
  · rw [List.pairwise_cons]
    exact ⟨(fun x hx hmm => by
      rw [hm' x hx] at hmm
      rcases hmm with h1 | h1 <;> cases h1), h.dis⟩
theorem Bun.non0 {w0 : World} {L : List Res} (r0 : Res) (h : Bun w0 L w0) (hs : r0.P w0) (hx : ∀ g, r0.X g → g < w0.heap.size) (hr0 : r0.mine = false) (hm : L.all (fun r => !r.mine) = true) : Bun w0 (r0 :: L) w0 := by
  have hm' : ∀ r ∈ L, r.mine = false := fun r hr => by have := List.all_eq_true.1 hm r hr; simpa using this
  refine ⟨fun r hr => ?_, fun r hr g hx' => ?_, ?_, h.gb⟩
  · rcases List.mem_cons.1 hr with rfl | hr
    · exact hs
    · exact h.all r hr
  · rcases List.mem_cons.1 hr with rfl | hr
    · exact ⟨hx g hx', fun e => by rw [hr0] at e; cases e⟩
    · exact h.bd r hr g hx'
  · rw [List.pairwise_cons]
    exact ⟨(fun x hx hmm => by
      rw [hm' x hx, hr0] at hmm
      rcases hmm with h1 | h1 <;> cases h1), h.dis⟩
theorem flat_at' {α : Type} {enc : α → List Value} {sz : Nat} (hsz : ∀ x, (enc x).length = sz) : ∀ (l : List α) (i : Nat) (x : α), l[i]? = some x → ∀ j u, (enc x)[j]? = some u → (l.flatMap enc)[i * sz + j]? = some u := by
  intro l
  induction l with
  | nil => intro i x h; simp at h
  | cons y l ih =>
    intro i x hi j u hj
    have hjl : j < sz := by have := (List.getElem?_eq_some_iff.1 hj).1; rw [hsz] at this; exact this
    rw [List.flatMap_cons]
    cases i with
    | zero =>
      simp at hi
      subst hi
      rw [List.getElem?_append_left (by rw [hsz]; omega)]
      simpa using hj
    | succ i =>
      rw [List.getElem?_append_right (by rw [hsz, Nat.succ_mul]; omega), hsz]
      have : (i + 1) * sz + j - sz = i * sz + j := by rw [Nat.succ_mul]; omega
      rw [this]
      exact ih i x (by simpa using hi) j u hj
/-- A literal is read as a list from here on. -/
theorem Bun.lit {α : Type} (enc : α → List Value) (sz : Nat) (l : List α) (c : Nat) {w0 A : World} {L : List Res} {g : Nat} {t : TypeId} {cs : Array Value} (h : Bun w0 (rbox g t cs :: L) A) (hsz : ∀ x, (enc x).length = sz) (hcs : cs.toList = l.flatMap enc) (hl : l.length ≤ 1000) :
    Bun w0 (rsl enc sz g (g + 1) (.slice (some ⟨g, 0, none⟩) l.length c) l :: L) A := by
  have hb : Bk A g t cs := h.all _ (.head _)
  have hs : Sl enc sz g (g + 1) A (.slice (some ⟨g, 0, none⟩) l.length c) l :=
    ⟨by unfold maxLen; omega, _, c, rfl, .inr ⟨g, 0, rfl, Nat.le_refl _, by omega, fun i x hi j u hj => by
      have h1 := flat_at' hsz l i x hi j u hj
      rw [← hcs] at h1
      rw [show 0 + i * sz + j = i * sz + j by omega, hb.cell]
      simpa using h1⟩⟩
  have hd := h.dis
  rw [List.pairwise_cons] at hd
  refine ⟨fun r hr => ?_, fun r hr x hx => ?_, ?_, h.gb⟩
  · rcases List.mem_cons.1 hr with rfl | hr
    · exact hs
    · exact h.all r (.tail _ hr)
  · rcases List.mem_cons.1 hr with rfl | hr
    · have e : x = g := by have := hx.1; have := hx.2; omega
      subst e
      exact ⟨hb.lt, fun e => by cases e⟩
    · exact h.bd r (.tail _ hr) x hx
  · rw [List.pairwise_cons]
    refine ⟨fun x hx hm y hy1 hy2 => ?_, hd.2⟩
    have e : y = g := by have := hy1.1; have := hy1.2; omega
    subst e
    exact hd.1 x hx (.inl rfl) y rfl hy2
def rmarks (Ds : List Nat) : Res :=
  ⟨true, fun x => x ∈ Ds, fun w => Ds.Nodup ∧ ∀ D ∈ Ds, w.heap[D]? = some (.deferred (some [])), fun _ _ _ hg hr h => ⟨h.1, fun D hD => (hg.block D (Array.getElem?_eq_some_iff.1 (h.2 D hD)).1 (fun e => hr D e.symm hD)).trans (h.2 D hD)⟩⟩
def mkD (D : Nat) : Deferred := { target := .collected D, args := #[] }
section
variable {w0 A B : World} {L : List Res} {sd : Nat}
theorem Bun.marks0 (h : Bun w0 L A) : Bun w0 (rmarks [] :: L) A := h.add (rmarks []) (gb_refl _ _) ⟨List.nodup_nil, fun _ h => by cases h⟩ fun _ e => by cases e
theorem Bun.mark {lo hi : Nat} {W0 : World} {Ds : List Nat} (h : Bun w0 (rkeep lo hi W0 :: rmarks Ds :: L) A) (hlt : lo < hi) (hk : A.heap[lo]? = some (.deferred (some []))) : Bun w0 (rmarks (lo :: Ds) :: L) A := by
  have h1 : KeepR lo hi W0 A := h.all _ (.head _)
  have h2 : Ds.Nodup ∧ ∀ D ∈ Ds, A.heap[D]? = some (.deferred (some [])) := h.all _ (.tail _ (.head _))
  have hd := h.dis
  rw [List.pairwise_cons] at hd
  have hd2 := hd.2
  rw [List.pairwise_cons] at hd2
  have hn : lo ∉ Ds := fun hm => hd.1 _ (.head _) (.inl rfl) lo ⟨Nat.le_refl _, hlt⟩ hm
  refine ⟨fun r hr => ?_, fun r hr g hx => ?_, ?_, h.gb⟩
  · rcases List.mem_cons.1 hr with rfl | hr
    · exact ⟨List.nodup_cons.2 ⟨hn, h2.1⟩, fun D hD => by
        rcases List.mem_cons.1 hD with rfl | hD
        · exact hk
        · exact h2.2 D hD⟩
    · exact h.all r (.tail _ (.tail _ hr))
  · rcases List.mem_cons.1 hr with rfl | hr
    · rcases List.mem_cons.1 hx with rfl | hx
      · exact h.bd _ (.head _) g ⟨Nat.le_refl _, hlt⟩
      · exact h.bd _ (.tail _ (.head _)) g hx
    · exact h.bd r (.tail _ (.tail _ hr)) g hx
  · rw [List.pairwise_cons]
    refine ⟨fun x hx hm g hg1 hg2 => ?_, hd2.2⟩
    rcases List.mem_cons.1 hg1 with rfl | hg1
    · exact hd.1 x (.tail _ hx) (.inl rfl) g ⟨Nat.le_refl _, hlt⟩ hg2
    · exact hd2.1 x hx (.inl rfl) g hg1 hg2
theorem Bun.marks {Ds : List Nat} (h : Bun w0 (rmarks Ds :: L) A) : Marks w0.heap.size A (Ds.map mkD) := by
  have h2 : Ds.Nodup ∧ ∀ D ∈ Ds, A.heap[D]? = some (.deferred (some [])) := h.all _ (.head _)
  exact ⟨Ds, rfl, h2.1, fun D hD => ⟨(h.bd _ (.head _) D hD).2 rfl, h2.2 D hD⟩⟩
end
end Go.Proofs.YtcndphefomigeaaDoor
/- A call that turns the seed leaves what is in hand in its order. -/
namespace Go.Proofs.YtcndphefomigeaaDoor
open Go.RowKit
section
variable {w0 A B : World} {L : List Res} {sd : Nat}
end
theorem Sl.cells0 {α : Type} {enc : α → List Value} {sz lo hi n c x : Nat} {w : World} {l : List α} (h : Sl enc sz lo hi w (.slice (some ⟨x, 0, none⟩) n c) l) {i : Nat} {z : α} (hz : l[i]? = some z) :
    ∀ j u, (enc z)[j]? = some u → w.cell? ⟨x, i * sz + j, none⟩ = some u := fun j u hj => by
  have := h.cells hz j u hj
  rwa [show 0 + i * sz + j = i * sz + j by omega] at this
end Go.Proofs.YtcndphefomigeaaDoor
/- Operations of a drawn region that come first: see Reg. -/
namespace Go.Proofs.YtcndphefomigeaaDoor
end Go.Proofs.YtcndphefomigeaaDoor
/- Operations of a drawn region that are passed over, as their guard says. -/
namespace Go.Proofs.YtcndphefomigeaaDoor
open Go.RowKit
section
variable {P : Program} {ops : Array Oper} {Q : Exit → Act → World → Prop} {md : Region.Mode} {S : World → Prop} {d : Nat}
theorem ru_ps (i : Nat) {oi : Oper} {fuel : Nat} {listed : Array Bool} {a : Act} {w : World}
    (h : wpAnyU P md ops Q S d fuel (listed.setIfInBounds i true) (a.put oi.dst undef) w) (hi : ops[i]? = some oi := by rfl)
    (hc : (Region.noSelect ops && Region.free md ops listed i && (Region.ready md ops listed).contains i && decide (i ≠ d) && closedB md ops listed) = true := by kernel_rfl)
    (hQ : ∀ c a w, Q (.panic c) (a.put oi.dst undef) w → Q (.panic c) a w := by exact fun _ _ _ h => h) (hS : listed.getD d true = false → S w := by exact fun hd_ => by first | assumption | (exact absurd hd_ (by decide)))
    (hw : Region.wanted oi (yielded ops a.tmps) = false := by first | kernel_rfl | rfl) : wpAnyU P md ops Q S d (fuel + 1) listed a w :=
  ru_pure i hi hc hQ hS (.inr ⟨hw, rfl⟩) h
end
end Go.Proofs.YtcndphefomigeaaDoor
/- A copy, in a plain region; a row of one's own that has elements, opened. -/
namespace Go.Proofs.YtcndphefomigeaaDoor
open Go.RowKit
section
variable {α : Type} {P : Program} {t e : TypeId} {sz bytes : Nat} {enc : α → List Value}
theorem wpList_copyB (ok : ElemOk P t e sz bytes enc) {ops : Array Oper} {rest : List Oper} {o : Oper} {a : Act} {Q : Exit → Act → World → Prop} {w0 w : World} {L : List Res} (hgd : o.guard = none) (s x : Operand)
    (ho : o.op = .call { callee := .builtin .append, args := #[s, x], argTypes := #[t, t] }) (base g : Nat) (hs : a.eval s = .slice (some ⟨g, 0, none⟩) 0 0) (hB : Bun w0 (rbox g e #[] :: L) w) (hb : base ≤ g)
    (lo hi : Nat) (v : Value) (l : List α) (hx : a.eval x = v) (hl : Sl enc sz lo hi w v l) (hbig : l.length ≤ 100000000000)
    (h : ∀ v' w', Bun w0 (rown enc e sz base v' l :: L) w' → w.heap.size ≤ w'.heap.size → wpList P ops Q rest (a.put o.dst v') w') : wpList P ops Q (o :: rest) a w := by
  have hg : Bk w g e #[] := hB.at 0 rfl
  refine wpList_plain hgd fun K hK => ?_
  obtain ⟨v', w', hr, h2, h3⟩ := run_copy w ok o.type base g hg lo hi v l hl hbig hb
  have hk := copy_block (base := base) ok o.type hg lo hi v hl hbig hb hr
  unfold Oper.wp execOp
  simp only [ho, resolve, invoke, builtin, Sem.run_bind, Sem.run_pure, Result.andThen_ok, List.map_toArray, List.map_cons, List.map_nil, hs, hx, hr]
  refine hK _ _ (h v' w' (hB.wr rfl h3 (fun k e => by injection e with e; exact e.symm) h2 fun k e => ⟨?_, (h2.lt k e).2⟩) h3.size)
  rcases hk k e with h4 | h4
  · exact .inl h4
  · exact .inr h4
theorem Own.opn {base : Nat} {w : World} {v : Value} {l : List α} (h : Own enc e sz base w v l) (h0 : 0 < l.length) : ∃ g cap, v = .slice (some ⟨g, 0, none⟩) l.length cap := by
  obtain ⟨h1, h2⟩ := h
  rcases h2 with ⟨rfl, hn⟩ | ⟨g, cap, cur, rfl, _⟩
  · omega
  · exact ⟨g, cap, rfl⟩
theorem Own.slG {base : Nat} {w : World} {g n cap : Nat} {l : List α} (h : Own enc e sz base w (.slice (some ⟨g, 0, none⟩) n cap) l) (hsz : ∀ x, (enc x).length = sz) : Sl enc sz g (g + 1) w (.slice (some ⟨g, 0, none⟩) n cap) l := by
  obtain ⟨h1, a, c, h2, h3⟩ := h.sl hsz
  refine ⟨h1, a, c, h2, ?_⟩
  rcases h3 with h3 | ⟨b, off, h4, h5, h6, h7⟩
  · exact .inl h3
  · refine .inr ⟨b, off, h4, ?_, ?_, h7⟩
    · rw [h4] at h2; injection h2 with h2; injection h2 with h2; injection h2 with h2; omega
    · rw [h4] at h2; injection h2 with h2; injection h2 with h2; injection h2 with h2; omega
end
end Go.Proofs.YtcndphefomigeaaDoor
/- make of a row of numbers. -/
namespace Go.Proofs.YtcndphefomigeaaDoor
open Go.RowKit

theorem flat_ints (l : List Int) : l.flatMap intEnc = l.map (fun z => Value.int .i64 z) := by
  induction l with
  | nil => rfl
  | cons z l ih => rw [List.flatMap_cons, ih]; rfl
theorem wpList_mkInt {ops : Array Oper} {rest : List Oper} {o : Oper} {a : Act} {Q : Exit → Act → World → Prop} {w0 w : World} {L : List Res} (hgd : o.guard = none) (l c : Operand) (ho : o.op = .makeSlice 27 l c)
    (n : Nat) (hl : a.eval l = .int .i64 (n : Int)) (hc : a.eval c = .int .i64 (n : Int)) (hB : Bun w0 L w) (hn : n ≤ 100000) (g : Nat) (hg : w.heap.size = g)
    (h : ∀ w', Bun w0 (rown intEnc 3 1 w0.heap.size (.slice (some ⟨g, 0, none⟩) n n) (List.replicate n 0) :: L) w' → w.heap.size ≤ w'.heap.size → wpList Tryd.prog ops Q rest (a.put o.dst (.slice (some ⟨g, 0, none⟩) n n)) w') : wpList Tryd.prog ops Q (o :: rest) a w := by
  obtain ⟨i, z, h2, h3, h4, h5, h6⟩ := okInt.info
  subst hg
  have ez : z = .int .i64 0 := by
    have h7 : (Tryd.prog.info? 3).map (fun i => i.zero) = some (some (.int .i64 0)) := by kernel_rfl
    rw [h2] at h7
    simp only [Option.map_some, Option.some.injEq] at h7
    rw [h3] at h7
    exact Option.some.inj h7
  subst ez
  refine wpList_make_full w hgd l c 27 ho w0.heap.size 3 i (.int .i64 0) 1 Tryd.underlying27 h2 h3 h4 .i64 .i64 n n n hl hc rfl rfl (by rw [h5]; omega) (by unfold maxLen; omega) hB.gb.size fun w' hw hgb => ?_
  have e : (madeCells (Value.cells (.int .i64 0)) (n * 1)).toList = (List.replicate n (0 : Int)).flatMap intEnc := by
    rw [flat_ints]
    refine List.ext_getElem (by simp [madeCells]) fun j h1 h2 => ?_
    simp [madeCells, Value.cells, Nat.mod_one]
  rw [e] at hw
  have ho' : Own intEnc 3 1 w0.heap.size w' (.slice (some ⟨w.heap.size, 0, none⟩) n n) (List.replicate n 0) := by
    unfold Own
    rw [List.length_replicate]
    exact hw
  refine h w' (hB.add _ hgb ho' fun g hx => ?_) hgb.size
  have hx' : some w.heap.size = some g := hx
  injection hx' with hx'
  subst hx'
  exact ⟨Nat.le_refl _, (ho'.lt _ hx).2⟩
end Go.Proofs.YtcndphefomigeaaDoor
/- What a call hands back in blocks of its own, beside what was in hand. -/
namespace Go.Proofs.YtcndphefomigeaaDoor
open Go.RowKit

end Go.Proofs.YtcndphefomigeaaDoor
/- Ways that part over a piece of code meet again behind it: where the walk is in the piece already. -/
namespace Go.Proofs.YtcndphefomigeaaDoor
open Go.RowKit
end Go.Proofs.YtcndphefomigeaaDoor
/- Ways that part over a piece of code meet again behind it. -/
namespace Go.Proofs.YtcndphefomigeaaDoor
open Go.RowKit
section
variable {P : Program} {ops : Array Oper} {Q : Exit → Act → World → Prop} {md : Region.Mode} {S : World → Prop} {d : Nat}
end
end Go.Proofs.YtcndphefomigeaaDoor
/- A region that draws its order, gone through state by state: what has come up, not in which order. -/
namespace Go.Proofs.YtcndphefomigeaaDoor
open Go.RowKit
section
variable {P : Program} {ops : Array Oper} {Q : Exit → Act → World → Prop} {md : Region.Mode} {S : World → Prop} {d : Nat}
end
end Go.Proofs.YtcndphefomigeaaDoor
/- A slice is put behind a row of one's own, in a drawn region; a copy there. -/
namespace Go.Proofs.YtcndphefomigeaaDoor
open Go.RowKit
section
variable {α : Type} {P : Program} {t e : TypeId} {sz bytes : Nat} {enc : α → List Value}
end
end Go.Proofs.YtcndphefomigeaaDoor
