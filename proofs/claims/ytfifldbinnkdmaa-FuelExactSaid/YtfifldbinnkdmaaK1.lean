/- What walks that ax.py prints lean on: tests, elements of slices, slices that were handed in. -/
import Derived.Test.YtfifldbinnkdmaaBus
import Derived.Test.YtfifldbinnkdmaaMarks
import Derived.Test.YtfifldbinnkdmaaReg
import Derived.Test.YtfifldbinnkdmaaCutB
import Derived.Deep.RegionHeld3
import Derived.LoopN
import Derived.Lib.MinMax
import Derived.BigQuiet
import Derived.Deep.QuietTactic
import Derived.Test.YtfifldbinnkdmaaSeq
import Derived.OrdersIn
import Derived.Test.YtfifldbinnkdmaaCopy2
import Derived.OwnWalk
set_option linter.unusedVariables false
set_option linter.unusedSimpArgs false
set_option linter.unnecessarySimpa false
namespace Go.Proofs.Ytfifldbinnkdmaa
open Go.RowKit

theorem beq_t {a b : Int} (h : a = b) : (a == b) = true := by rw [beq_iff_eq]; exact h
theorem beq_f {a b : Int} (h : ¬ a = b) : (a == b) = false := by rw [beq_eq_false_iff_ne]; exact h
theorem bne_f {a b : Int} (h : a = b) : (a != b) = false := by rw [bne, beq_t h]; rfl
theorem bne_t {a b : Int} (h : ¬ a = b) : (a != b) = true := by rw [bne, beq_f h]; rfl
theorem dec_f {p : Prop} [Decidable p] (h : ¬ p) : decide p = false := decide_eq_false h
theorem dec_t {p : Prop} [Decidable p] (h : p) : decide p = true := decide_eq_true h
theorem Sl.cells {α : Type} {enc : α → List Value} {sz lo hi n c x ox : Nat} {w : World} {l : List α} (h : Sl enc sz lo hi w (.slice (some ⟨x, ox, none⟩) n c) l) {i : Nat} {z : α} (hz : l[i]? = some z) :
    ∀ j u, (enc z)[j]? = some u → w.cell? ⟨x, ox + i * sz + j, none⟩ = some u := by
  have hi : i < l.length := (List.getElem?_eq_some_iff.1 hz).1
  obtain ⟨x', ox', c', ev, _, _, H⟩ := h.form (by omega)
  injection ev with e1 _ e2
  injection e1 with e1
  injection e1 with e3 e4
  subst e3 e4
  have := H i hi
  rw [(List.getElem?_eq_some_iff.1 hz).2] at this
  exact this
theorem Sl.addr {α : Type} {enc : α → List Value} {sz lo hi n c : Nat} {a : Option Addr} {w : World} {l : List α} (h : Sl enc sz lo hi w (.slice a n c) l) (h0 : 0 < l.length) : ∃ x ox, a = some ⟨x, ox, none⟩ := by
  obtain ⟨x, ox, c', ev, _⟩ := h.form h0
  injection ev with e1 _ _
  exact ⟨x, ox, e1⟩
theorem Bun.name {w0 A : World} {L : List Res} (h : Bun w0 L A) : ∃ x, A = x ∧ Bun w0 L x ∧ A.heap.size ≤ x.heap.size := ⟨A, rfl, h, Nat.le_refl _⟩
theorem Bus.name {w0 A : World} {sd : Nat} {L : List Res} (h : Bus w0 sd L A) : ∃ x, A = x ∧ Bus w0 sd L x ∧ A.heap.size ≤ x.heap.size := ⟨A, rfl, h, Nat.le_refl _⟩
theorem drop_cons {α : Type} {l : List α} {k : Nat} {z : α} (h : l[k]? = some z) : l.drop k = z :: l.drop (k + 1) := by
  obtain ⟨h1, rfl⟩ := List.getElem?_eq_some_iff.1 h
  exact List.drop_eq_getElem_cons h1

theorem Bun.sl0 {α : Type} {enc : α → List Value} {sz lo hi : Nat} {v : Value} {l : List α} {w0 : World} {L : List Res} (h : Bun w0 L w0) (hs : Sl enc sz lo hi w0 v l) (h2 : hi ≤ w0.heap.size) (hm : L.all (fun r => !r.mine) = true) : Bun w0 (rsl enc sz lo hi v l :: L) w0 := by
  have hm' : ∀ r ∈ L, r.mine = false := fun r hr => by have := List.all_eq_true.1 hm r hr; simpa using this
  refine ⟨fun r hr => ?_, fun r hr g hx => ?_, ?_, h.gb⟩
  · rcases List.mem_cons.1 hr with rfl | hr
    · exact hs
    · exact h.all r hr
  · rcases List.mem_cons.1 hr with rfl | hr
    · exact ⟨Nat.lt_of_lt_of_le hx.2 h2, fun e => by cases e⟩
    · exact h.bd r hr g hx
  · rw [List.pairwise_cons]
    exact ⟨(fun x hx hmm => by
      rw [hm' x hx] at hmm
      rcases hmm with h1 | h1 <;> cases h1), h.dis⟩
def prevC {α : Type} (l : List α) (k : Nat) : Option α := if k = 0 then none else l[k - 1]?
theorem prevC_succ {α : Type} (l : List α) (k : Nat) : prevC l (k + 1) = l[k]? := by simp [prevC]

end Go.Proofs.Ytfifldbinnkdmaa
/- The cells of a box in hand, all at once; one cell; a box's new content told. -/
namespace Go.Proofs.Ytfifldbinnkdmaa
open Go.RowKit

section
variable {w0 A : World} {L : List Res} 
theorem Bun.cl (h : Bun w0 L A) (i j : Nat) {g : Nat} {t : TypeId} {cs : Array Value} {u : Value} (hi : L[i]? = some (rbox g t cs)) (hj : cs[j]? = some u) : A.cell? ⟨g, j, none⟩ = some u := (Bk.cell (h.at i hi) j).trans hj
theorem Bun.fz (h : Bun w0 L A) (i j : Nat) {g : Nat} {t : TypeId} {cs : Array Value} (hi : L[i]? = some (rbox g t cs)) : A.frozen? ⟨g, j, none⟩ = false := Bk.frozen (h.at i hi) j
theorem Bun.nf (cs' : Array Value) {g : Nat} {t : TypeId} {cs : Array Value} (h : Bun w0 (rbox g t cs :: L) A) (e : cs = cs') : Bun w0 (rbox g t cs' :: L) A := e ▸ h
theorem Bk.bx1 {g : Nat} {t : TypeId} {a0 : Value} (b : Bk A g t #[a0]) : (A.cell? ⟨g, 0, none⟩ = some a0) ∧ (A.frozen? ⟨g, 0, none⟩ = false) ∧ g < A.heap.size := ⟨b.cell 0, b.frozen 0, b.lt⟩
theorem Bun.bx1 (h : Bun w0 L A) (i : Nat) {g : Nat} {t : TypeId} {a0 : Value} (hi : L[i]? = some (rbox g t #[a0])) : (A.cell? ⟨g, 0, none⟩ = some a0) ∧ (A.frozen? ⟨g, 0, none⟩ = false) ∧ g < A.heap.size := Bk.bx1 (h.at i hi)
theorem Bk.bx2 {g : Nat} {t : TypeId} {a0 a1 : Value} (b : Bk A g t #[a0, a1]) : (A.cell? ⟨g, 0, none⟩ = some a0 ∧ A.cell? ⟨g, 1, none⟩ = some a1) ∧ (A.frozen? ⟨g, 0, none⟩ = false ∧ A.frozen? ⟨g, 1, none⟩ = false) ∧ g < A.heap.size := ⟨⟨b.cell 0, b.cell 1⟩, ⟨b.frozen 0, b.frozen 1⟩, b.lt⟩
theorem Bun.bx2 (h : Bun w0 L A) (i : Nat) {g : Nat} {t : TypeId} {a0 a1 : Value} (hi : L[i]? = some (rbox g t #[a0, a1])) : (A.cell? ⟨g, 0, none⟩ = some a0 ∧ A.cell? ⟨g, 1, none⟩ = some a1) ∧ (A.frozen? ⟨g, 0, none⟩ = false ∧ A.frozen? ⟨g, 1, none⟩ = false) ∧ g < A.heap.size := Bk.bx2 (h.at i hi)
theorem Bk.bx3 {g : Nat} {t : TypeId} {a0 a1 a2 : Value} (b : Bk A g t #[a0, a1, a2]) : (A.cell? ⟨g, 0, none⟩ = some a0 ∧ A.cell? ⟨g, 1, none⟩ = some a1 ∧ A.cell? ⟨g, 2, none⟩ = some a2) ∧ (A.frozen? ⟨g, 0, none⟩ = false ∧ A.frozen? ⟨g, 1, none⟩ = false ∧ A.frozen? ⟨g, 2, none⟩ = false) ∧ g < A.heap.size := ⟨⟨b.cell 0, b.cell 1, b.cell 2⟩, ⟨b.frozen 0, b.frozen 1, b.frozen 2⟩, b.lt⟩
theorem Bun.bx3 (h : Bun w0 L A) (i : Nat) {g : Nat} {t : TypeId} {a0 a1 a2 : Value} (hi : L[i]? = some (rbox g t #[a0, a1, a2])) : (A.cell? ⟨g, 0, none⟩ = some a0 ∧ A.cell? ⟨g, 1, none⟩ = some a1 ∧ A.cell? ⟨g, 2, none⟩ = some a2) ∧ (A.frozen? ⟨g, 0, none⟩ = false ∧ A.frozen? ⟨g, 1, none⟩ = false ∧ A.frozen? ⟨g, 2, none⟩ = false) ∧ g < A.heap.size := Bk.bx3 (h.at i hi)
theorem Bk.bx4 {g : Nat} {t : TypeId} {a0 a1 a2 a3 : Value} (b : Bk A g t #[a0, a1, a2, a3]) : (A.cell? ⟨g, 0, none⟩ = some a0 ∧ A.cell? ⟨g, 1, none⟩ = some a1 ∧ A.cell? ⟨g, 2, none⟩ = some a2 ∧ A.cell? ⟨g, 3, none⟩ = some a3) ∧ (A.frozen? ⟨g, 0, none⟩ = false ∧ A.frozen? ⟨g, 1, none⟩ = false ∧ A.frozen? ⟨g, 2, none⟩ = false ∧ A.frozen? ⟨g, 3, none⟩ = false) ∧ g < A.heap.size := ⟨⟨b.cell 0, b.cell 1, b.cell 2, b.cell 3⟩, ⟨b.frozen 0, b.frozen 1, b.frozen 2, b.frozen 3⟩, b.lt⟩
theorem Bun.bx4 (h : Bun w0 L A) (i : Nat) {g : Nat} {t : TypeId} {a0 a1 a2 a3 : Value} (hi : L[i]? = some (rbox g t #[a0, a1, a2, a3])) : (A.cell? ⟨g, 0, none⟩ = some a0 ∧ A.cell? ⟨g, 1, none⟩ = some a1 ∧ A.cell? ⟨g, 2, none⟩ = some a2 ∧ A.cell? ⟨g, 3, none⟩ = some a3) ∧ (A.frozen? ⟨g, 0, none⟩ = false ∧ A.frozen? ⟨g, 1, none⟩ = false ∧ A.frozen? ⟨g, 2, none⟩ = false ∧ A.frozen? ⟨g, 3, none⟩ = false) ∧ g < A.heap.size := Bk.bx4 (h.at i hi)
theorem Bk.bx5 {g : Nat} {t : TypeId} {a0 a1 a2 a3 a4 : Value} (b : Bk A g t #[a0, a1, a2, a3, a4]) : (A.cell? ⟨g, 0, none⟩ = some a0 ∧ A.cell? ⟨g, 1, none⟩ = some a1 ∧ A.cell? ⟨g, 2, none⟩ = some a2 ∧ A.cell? ⟨g, 3, none⟩ = some a3 ∧ A.cell? ⟨g, 4, none⟩ = some a4) ∧ (A.frozen? ⟨g, 0, none⟩ = false ∧ A.frozen? ⟨g, 1, none⟩ = false ∧ A.frozen? ⟨g, 2, none⟩ = false ∧ A.frozen? ⟨g, 3, none⟩ = false ∧ A.frozen? ⟨g, 4, none⟩ = false) ∧ g < A.heap.size := ⟨⟨b.cell 0, b.cell 1, b.cell 2, b.cell 3, b.cell 4⟩, ⟨b.frozen 0, b.frozen 1, b.frozen 2, b.frozen 3, b.frozen 4⟩, b.lt⟩
theorem Bun.bx5 (h : Bun w0 L A) (i : Nat) {g : Nat} {t : TypeId} {a0 a1 a2 a3 a4 : Value} (hi : L[i]? = some (rbox g t #[a0, a1, a2, a3, a4])) : (A.cell? ⟨g, 0, none⟩ = some a0 ∧ A.cell? ⟨g, 1, none⟩ = some a1 ∧ A.cell? ⟨g, 2, none⟩ = some a2 ∧ A.cell? ⟨g, 3, none⟩ = some a3 ∧ A.cell? ⟨g, 4, none⟩ = some a4) ∧ (A.frozen? ⟨g, 0, none⟩ = false ∧ A.frozen? ⟨g, 1, none⟩ = false ∧ A.frozen? ⟨g, 2, none⟩ = false ∧ A.frozen? ⟨g, 3, none⟩ = false ∧ A.frozen? ⟨g, 4, none⟩ = false) ∧ g < A.heap.size := Bk.bx5 (h.at i hi)
theorem Bk.bx6 {g : Nat} {t : TypeId} {a0 a1 a2 a3 a4 a5 : Value} (b : Bk A g t #[a0, a1, a2, a3, a4, a5]) : (A.cell? ⟨g, 0, none⟩ = some a0 ∧ A.cell? ⟨g, 1, none⟩ = some a1 ∧ A.cell? ⟨g, 2, none⟩ = some a2 ∧ A.cell? ⟨g, 3, none⟩ = some a3 ∧ A.cell? ⟨g, 4, none⟩ = some a4 ∧ A.cell? ⟨g, 5, none⟩ = some a5) ∧ (A.frozen? ⟨g, 0, none⟩ = false ∧ A.frozen? ⟨g, 1, none⟩ = false ∧ A.frozen? ⟨g, 2, none⟩ = false ∧ A.frozen? ⟨g, 3, none⟩ = false ∧ A.frozen? ⟨g, 4, none⟩ = false ∧ A.frozen? ⟨g, 5, none⟩ = false) ∧ g < A.heap.size := ⟨⟨b.cell 0, b.cell 1, b.cell 2, b.cell 3, b.cell 4, b.cell 5⟩, ⟨b.frozen 0, b.frozen 1, b.frozen 2, b.frozen 3, b.frozen 4, b.frozen 5⟩, b.lt⟩
theorem Bun.bx6 (h : Bun w0 L A) (i : Nat) {g : Nat} {t : TypeId} {a0 a1 a2 a3 a4 a5 : Value} (hi : L[i]? = some (rbox g t #[a0, a1, a2, a3, a4, a5])) : (A.cell? ⟨g, 0, none⟩ = some a0 ∧ A.cell? ⟨g, 1, none⟩ = some a1 ∧ A.cell? ⟨g, 2, none⟩ = some a2 ∧ A.cell? ⟨g, 3, none⟩ = some a3 ∧ A.cell? ⟨g, 4, none⟩ = some a4 ∧ A.cell? ⟨g, 5, none⟩ = some a5) ∧ (A.frozen? ⟨g, 0, none⟩ = false ∧ A.frozen? ⟨g, 1, none⟩ = false ∧ A.frozen? ⟨g, 2, none⟩ = false ∧ A.frozen? ⟨g, 3, none⟩ = false ∧ A.frozen? ⟨g, 4, none⟩ = false ∧ A.frozen? ⟨g, 5, none⟩ = false) ∧ g < A.heap.size := Bk.bx6 (h.at i hi)
theorem Bun.pt2 {g : Nat} {t : TypeId} {a0 a1 : Value} (h : Bun w0 (rbox g t #[a0, a1] :: L) A) (u0 u1 : Value) : Bun w0 (rbox g t #[u0, u1] :: L) (World.setCell (World.setCell A ⟨g, 0, none⟩ u0) ⟨g, 1, none⟩ u1) := by
  simpa using ((h.set 0 u0).set 1 u1)
theorem Bun.pt3 {g : Nat} {t : TypeId} {a0 a1 a2 : Value} (h : Bun w0 (rbox g t #[a0, a1, a2] :: L) A) (u0 u1 u2 : Value) : Bun w0 (rbox g t #[u0, u1, u2] :: L) (World.setCell (World.setCell (World.setCell A ⟨g, 0, none⟩ u0) ⟨g, 1, none⟩ u1) ⟨g, 2, none⟩ u2) := by
  simpa using (((h.set 0 u0).set 1 u1).set 2 u2)
theorem Bun.pt4 {g : Nat} {t : TypeId} {a0 a1 a2 a3 : Value} (h : Bun w0 (rbox g t #[a0, a1, a2, a3] :: L) A) (u0 u1 u2 u3 : Value) : Bun w0 (rbox g t #[u0, u1, u2, u3] :: L) (World.setCell (World.setCell (World.setCell (World.setCell A ⟨g, 0, none⟩ u0) ⟨g, 1, none⟩ u1) ⟨g, 2, none⟩ u2) ⟨g, 3, none⟩ u3) := by
  simpa using ((((h.set 0 u0).set 1 u1).set 2 u2).set 3 u3)
end
end Go.Proofs.Ytfifldbinnkdmaa
/- Inside a round of a range over a function: a region that draws, walked as elsewhere. -/
namespace Go.Proofs.Ytfifldbinnkdmaa
open Go.RowKit

section
variable {P : Program} {ops : Array Oper} {Q : Exit → Act → World → Prop} {l n : Nat}
theorem rowsIn_wide {row : String} {args : Array Value} {w : World} {R : Value → World → Prop} (h : Rows P row args w R) : RowsIn Fence.wide n P row args w R :=
  fun c cs _ => let ⟨v, w', r, s⟩ := h c cs; ⟨v, w', r, stepsIn_wide.2 s⟩
theorem operIn_of_wp {o : Oper} {a : Act} {w : World} {K : Act → World → Prop} (hnd : ∀ c, o.op ≠ .defer c) (h : o.wp P a w K Q) : o.wpIn (Fence.wide.inRound l) n P a w K Q := by
  refine ⟨fun _ _ => trivial, ?_⟩
  rw [Oper.semAt_eq _ _ _ hnd]
  unfold Oper.wp at h
  generalize (execOp a.eval o).run P w = r at *
  cases r with
  | ok x w' =>
    cases x with
    | value v => exact h
    | skip => exact h
    | defer d => exact h
    | enter f args => exact ⟨fun e => (by cases e), CallsIn.inRound l (callsIn_wide.2 h)⟩
    | row row args => exact ⟨fun e => (by cases e), rowsIn_wide h⟩
    | _ => exact h.elim
  | halt x w' =>
    cases x with
    | panic v => exact h
    | _ => exact h.elim
def noDefer (ops : Array Oper) : Bool := ops.all fun o => match o.op with | .defer _ => false | _ => true
theorem noDefer_at (h : noDefer ops = true) {i : Nat} {o : Oper} (ho : ops[i]? = some o) : ∀ c, o.op ≠ .defer c := by
  intro c e
  obtain ⟨hi, rfl⟩ := Array.getElem?_eq_some_iff.1 ho
  have := Array.all_eq_true.1 h i hi
  rw [e] at this
  cases this
theorem wpOpIn_of {i : Nat} {K K' : Act → World → Prop} {a : Act} {w : World} (hd : noDefer ops = true) (hQ : ¬ LetsOut Q) (hK : ∀ a w, K a w → K' a w) (h : wpOp P ops Q i K a w) : wpOpIn (Fence.wide.inRound l) n P ops Q i K' a w := by
  unfold wpOp at h
  unfold wpOpIn
  cases ho : ops[i]? with
  | none => rw [ho] at h; exact hK _ _ h
  | some o =>
    rw [ho] at h
    simp only at h ⊢
    split at h
    · rename_i hw
      rw [if_pos hw]
      rcases h with h | h
      · exact operIn_of_wp (noDefer_at hd ho) (Oper.wp_mono hK h)
      · exact absurd h.2 hQ
    · rename_i hw
      rw [if_neg hw]
      exact ⟨fun _ _ => trivial, hK _ _ h⟩
theorem wpAnyIn_of (hd : noDefer ops = true) (hQ : ¬ LetsOut Q) (md : Region.Mode) : ∀ (fuel : Nat) (listed : Array Bool) (a : Act) (w : World), wpAny P md ops Q fuel listed a w → wpAnyIn (Fence.wide.inRound l) n P md ops Q fuel listed a w
  | 0, _, _, _, h => h
  | fuel + 1, _, _, _, h => ⟨h.1, fun i hi => wpOpIn_of hd hQ (wpAnyIn_of hd hQ md fuel _) (h.2 i hi)⟩
/-- A region that draws. -/
theorem wpIn_draw {id : Nat} {a : Act} {w : World} (hm : P.follows .mixedOrders = true) (hd : noDefer ops = true) (hQ : ¬ LetsOut Q)
    (h : wpAny P .any ops Q ops.size (Array.replicate ops.size false) a { w with drawn := w.drawn + 1 }) : (Code.region id ops true).wpIn (Fence.wide.inRound l) n P Q a w :=
  wpIn_region_any hm (wpAnyIn_of hd hQ _ _ _ _ _ h)
/-- A region that does not. -/
theorem wpOpsIn_of (hd : noDefer ops = true) (hQ : ¬ LetsOut Q) : ∀ (is : List Nat) (a : Act) (w : World), wpOps P ops Q is a w → wpOpsIn (Fence.wide.inRound l) n P ops Q is a w
  | [], _, _, h => h
  | i :: is, a, w, h => by
    rw [wpOps_cons] at h
    rw [wpOpsIn_cons]
    exact wpOpIn_of hd hQ (wpOpsIn_of hd hQ is) h
theorem wpIn_plain {id : Nat} {a : Act} {w : World} (hd : noDefer ops = true) (hQ : ¬ LetsOut Q) (h : wpOps P ops Q (List.range ops.size) a w) : (Code.region id ops false).wpIn (Fence.wide.inRound l) n P Q a w :=
  wpIn_region (wpOpsIn_of hd hQ _ _ _ h)
end
end Go.Proofs.Ytfifldbinnkdmaa
/- A range over a function whose iterator keeps blocks of its own between rounds: the iterator's contract, the loop's law, and the range of blocks that a body leaves alone. -/
namespace Go.Proofs.Ytfifldbinnkdmaa
open Go.RowKit Go.Shelf

/-- The blocks from lo below hi lie as they lay. -/
def KeepR (lo hi : Nat) (A B : World) : Prop := hi ≤ B.heap.size ∧ ∀ g, lo ≤ g → g < hi → B.heap[g]? = A.heap[g]?
theorem KeepR.mono {lo hi lo' hi' : Nat} {A B : World} (h : KeepR lo hi A B) (h1 : lo ≤ lo') (h2 : hi' ≤ hi) : KeepR lo' hi' A B := ⟨Nat.le_trans h2 h.1, fun g a b => h.2 g (by omega) (by omega)⟩
/-- They are none of the walk's business: as they lay in W0. -/
def rkeep (lo hi : Nat) (W0 : World) : Res :=
  ⟨true, fun x => lo ≤ x ∧ x < hi, fun w => KeepR lo hi W0 w, fun A B _ hg hr h => ⟨Nat.le_trans h.1 hg.size, fun g a b => (hg.block g (Nat.lt_of_lt_of_le b h.1) (fun e => hr g e.symm ⟨a, b⟩)).trans (h.2 g a b)⟩⟩
section
variable {w0 A B : World} {L : List Res} {sd : Nat}
theorem Bun.rekeep {lo hi : Nat} {W0 : World} (h : Bun w0 (rkeep lo hi W0 :: L) A) {r : Option Nat} (hg : A.grownBy B r) (hr : ∀ g, r = some g → lo ≤ g ∧ g < hi) : Bun w0 (rkeep lo hi B :: L) B := by
  have hk : KeepR lo hi W0 A := h.all _ (.head _)
  refine h.wr rfl hg (fun g e => hr g e) ⟨Nat.le_trans hk.1 hg.size, fun _ _ _ => rfl⟩ fun g e => ⟨.inl e, ?_⟩
  have := e.2; have := hk.1; have := hg.size
  omega
theorem Bun.keep0 {lo hi : Nat} (h : Bun w0 L A) (hg : A.grownBy B none) (hlo : A.heap.size ≤ lo) (hhi : hi ≤ B.heap.size) : Bun w0 (rkeep lo hi B :: L) B :=
  h.add (rkeep lo hi B) hg ⟨hhi, fun _ _ _ => rfl⟩ fun g e => ⟨Nat.le_trans hlo e.1, Nat.lt_of_lt_of_le e.2 hhi⟩
theorem Bun.kept {lo hi : Nat} {W0 : World} (h : Bun w0 (rkeep lo hi W0 :: L) A) : KeepR lo hi W0 A := h.all _ (.head _)
theorem Bus.rekeep {lo hi : Nat} {W0 : World} (h : Bus w0 sd (rkeep lo hi W0 :: L) A) {r : Option Nat} (hg : A.grownBy B r) (hr : ∀ g, r = some g → lo ≤ g ∧ g < hi) : Bus w0 sd (rkeep lo hi B :: L) B := by
  have hk : KeepR lo hi W0 A := h.all _ (.head _)
  refine h.wr rfl hg (fun g e => hr g e) ⟨Nat.le_trans hk.1 hg.size, fun _ _ _ => rfl⟩ fun g e => ⟨.inl e, ?_⟩
  have := e.2; have := hk.1; have := hg.size
  omega
theorem Bus.keep0 {lo hi : Nat} (h : Bus w0 sd L A) (hg : A.grownBy B none) (hlo : A.heap.size ≤ lo) (hhi : hi ≤ B.heap.size) : Bus w0 sd (rkeep lo hi B :: L) B :=
  h.add (rkeep lo hi B) hg ⟨hhi, fun _ _ _ => rfl⟩ fun g e => ⟨Nat.le_trans hlo e.1, Nat.lt_of_lt_of_le e.2 hhi⟩
theorem Bus.kept {lo hi : Nat} {W0 : World} (h : Bus w0 sd (rkeep lo hi W0 :: L) A) : KeepR lo hi W0 A := h.all _ (.head _)
end

/-- The iterator hands out N values in a row; it writes blocks of its own alone (from its start below hi), which a round leaves as they are. -/
def SeqI (P : Program) (gf : Nat) (lb : Array Value) (N : Nat) (el : Nat → Array Value) (Hold : World → Prop) : Prop :=
  ∀ (l : Nat) (J Jx : Nat → Nat → World → Prop) (W : World),
    (∀ hi i A B r, J hi i A → A.grownBy B r → (∀ g, r = some g → W.heap.size ≤ g ∧ g < hi) → J hi i B) →
    (∀ hi i A B r, Jx hi i A → A.grownBy B r → (∀ g, r = some g → W.heap.size ≤ g ∧ g < hi) → Jx hi i B) →
    (∀ hi i A, J hi i A → Hold A ∧ hi ≤ A.heap.size) →
    (∀ hi i A, J hi i A → i < N → W.heap.size ≤ hi → YieldAt Fence.wide 0 P l (el i) A fun e B =>
      (e = .returned (.bool true) ∧ J hi (i + 1) B ∧ KeepR W.heap.size hi A B) ∨ (e = .returned (.bool false) ∧ Jx hi (i + 1) B)) →
    (∀ hi B, W.grownBy B none → B.heap.size = hi → J hi 0 B) →
    Calls P gf (#[.func (.yield l) #[] #[]] ++ lb) W fun e B => (∃ v, e = .returned v) ∧ ∃ hi, W.heap.size ≤ hi ∧ (J hi N B ∨ ∃ i, i ≤ N ∧ Jx hi i B)

def iPost (lo hi : Nat) (I : Nat → Nat → World → Prop) (Ix : Code → Nat → Nat → World → Prop) (i : Nat) (W : World) : Exit → Act → World → Prop
  | .normal, _, W' => KeepR lo hi W W' ∧ I hi i W'
  | .ret, _, W' => KeepR lo hi W W' ∧ Ix .ret hi i W'
  | .exit id, _, W' => KeepR lo hi W W' ∧ Ix (.exit id) hi i W'
  | .goto t, _, W' => KeepR lo hi W W' ∧ Ix (.goto t) hi i W'
  | .panic _, _, _ => False
  | .outgrown, _, _ => False
theorem iPost_out {lo hi : Nat} {I : Nat → Nat → World → Prop} {Ix : Code → Nat → Nat → World → Prop} {i : Nat} {W : World} : ¬ LetsOut (iPost lo hi I Ix i W) := fun ⟨_, _, h⟩ => h
theorem then_out {K : Act → World → Prop} {Q : Exit → Act → World → Prop} (h : ¬ LetsOut Q) : ¬ LetsOut (Exit.then K Q) := fun ⟨a, w, h'⟩ => h ⟨a, w, h'⟩

/-- The loop's law. -/
theorem wp_rangeI {P : Program} {g : Operand} {ps : Array Tmp} {assign body : Code} {Q : Exit → Act → World → Prop} {a : Act} {w : World} {gf : Nat} {lb : Array Value} {N : Nat} {el : Nat → Array Value} {Hold : World → Prop}
    (hg : a.eval g = .func (.func gf) #[] lb) (eg : ∀ args w, (callFunc gf args).run P w = .ok (.enter gf args) w) (hps : ∀ i, (el i).size = ps.size) (hseq : SeqI P gf lb N el Hold)
    (I : Nat → Nat → World → Prop) (Ix : Code → Nat → Nat → World → Prop)
    (hI : ∀ hi i A B r, I hi i A → A.grownBy B r → (∀ g, r = some g → w.heap.size ≤ g ∧ g < hi) → I hi i B)
    (hIx : ∀ c hi i A B r, Ix c hi i A → A.grownBy B r → (∀ g, r = some g → w.heap.size ≤ g ∧ g < hi) → Ix c hi i B)
    (hH : ∀ hi i A, I hi i A → Hold A ∧ hi ≤ A.heap.size)
    (h0 : ∀ hi B, w.grownBy B none → B.heap.size = hi → w.heap.size + 2 ≤ hi → I hi 0 B)
    (hround : ∀ (l hi i : Nat) (W : World), I hi i W → i < N → w.heap.size + 2 ≤ hi → hi ≤ W.heap.size →
      assign.wpIn (Fence.wide.inRound l) 0 P (Exit.then (fun a' W' => KeepR w.heap.size hi W W' ∧ (∀ W2, W'.grownBy W2 (some (w.heap.size + 1)) → body.wpIn (Fence.wide.inRound l) 0 P (iPost w.heap.size hi I Ix (i + 1) W2) a' W2)) (fun _ _ _ => False))
        { tmps := (ps.zip (el i)).foldl (fun t (p, v) => t.setIfInBounds p v) a.tmps, defers := [] } W)
    (hdone : ∀ hi W, w.heap.size + 2 ≤ hi → I hi N W → W.heap[w.heap.size]? = some (.deferred (some [])) → Q .normal { a with defers := { target := .collected w.heap.size, args := #[] } :: a.defers } W)
    (hstop : ∀ c hi i W, w.heap.size + 2 ≤ hi → i ≤ N → Ix c hi i W → W.heap[w.heap.size]? = some (.deferred (some [])) → c.wp P Q { a with defers := { target := .collected w.heap.size, args := #[] } :: a.defers } W) :
    (Code.rangeFunc g ps assign body).wp P Q a w := by
  refine wpIn_wide (n := 0).1 (wpIn_rangeFunc ?_)
  intro fn hfn
  obtain ⟨rec, hrec⟩ : ∃ rec : LoopState → Option Code → Loop, rec = fun st pe => { state := st, pending := pe, fn, tmps := a.tmps, params := ps, assign, body, defers := w.heap.size } := ⟨_, rfl⟩
  obtain ⟨W1, hW1⟩ : ∃ W1, (w.alloc (.deferred (some []))).alloc (.loop (rec .ready none)) = W1 := ⟨_, rfl⟩
  have hL1 : W1.heap[w.heap.size + 1]? = some (.loop (rec .ready none)) := by
    rw [← hW1]; have := World.alloc_heap_new (w.alloc (.deferred (some []))) (.loop (rec .ready none)); rwa [World.size_alloc] at this
  have hK1 : W1.heap[w.heap.size]? = some (.deferred (some [])) := by
    rw [← hW1]; exact (Below.heap_alloc _ _ _ (by simp)).trans (World.alloc_heap_new w _)
  have hg1 : w.grownBy W1 none := by rw [← hW1]; exact gb_alloc (gb_alloc (gb_refl _ _) _) _
  have hs1 : W1.heap.size = w.heap.size + 2 := by rw [← hW1]; simp
  refine ⟨w.heap.size + 1, [{ target := .collected w.heap.size, args := #[] }], W1, { target := .fn (.func gf) lb, args := #[.func (.yield (w.heap.size + 1)) #[] #[]] }, W1, gf,
    #[.func (.yield (w.heap.size + 1)) #[] #[]] ++ lb, W1, ?_, ?_, fun _ _ => trivial, ?_, by simp [Fence.wide], ?_⟩
  · rw [← hW1, hrec]; exact run_enterLoop_outer _ _ _ _ _
  · simp only [resolve, hg]
    simp [go_sem]
  · simp [invoke, go_sem, eg]
  have keep2 : ∀ {A B : World} {r : Option Nat} {g : Nat} {o : Obj}, A.heap[g]? = some o → A.grownBy B r → (∀ x, r = some x → W1.heap.size ≤ x) → g < W1.heap.size → B.heap[g]? = some o := fun {A B r g o} h hg hr hlt =>
    (hg.block g (Array.getElem?_eq_some_iff.1 h).1 (fun e => by have := hr g e.symm; omega)).trans h
  refine callsIn_wide.2 ((hseq (w.heap.size + 1)
    (fun hi i W => I hi i W ∧ W.heap[w.heap.size + 1]? = some (.loop (rec .ready none)) ∧ W.heap[w.heap.size]? = some (.deferred (some [])))
    (fun hi i W => ∃ c, Ix c hi i W ∧ W.heap[w.heap.size + 1]? = some (.loop (rec .done (some c))) ∧ W.heap[w.heap.size]? = some (.deferred (some [])))
    W1 (fun hi i A B r hs hg' hr => ⟨hI hi i A B r hs.1 hg' (fun x e => by have := hr x e; omega), keep2 hs.2.1 hg' (fun x e => (hr x e).1) (by omega), keep2 hs.2.2 hg' (fun x e => (hr x e).1) (by omega)⟩)
    (fun hi i A B r hs hg' hr => by
      obtain ⟨c, hc, hl, hk⟩ := hs
      exact ⟨c, hIx c hi i A B r hc hg' (fun x e => by have := hr x e; omega), keep2 hl hg' (fun x e => (hr x e).1) (by omega), keep2 hk hg' (fun x e => (hr x e).1) (by omega)⟩)
    (fun hi i A hs => hH hi i A hs.1) ?_
    (fun hi B hg' hh => ⟨h0 hi B (gb_trans hg1 hg') hh (by have := hg'.size; omega), keep2 hL1 hg' (fun x e => by cases e) (by omega), keep2 hK1 hg' (fun x e => by cases e) (by omega)⟩)).mono ?_)
  · rintro hi i W ⟨hi', hl, hk⟩ hlen hhi
    have hlt : w.heap.size + 1 < W.heap.size := (Array.getElem?_eq_some_iff.1 hl).1
    have hy := run_yield (P := P) (args := el i) hl (by rw [hrec]; exact hps i)
    rw [hrec] at hy
    have hhW : hi ≤ W.heap.size := (hH hi i W hi').2
    refine ⟨fn, _, assign, body, hy, roundIn_of_wpIn hfn (wpIn_mono (hround (w.heap.size + 1) hi i W hi' hlen (by omega) hhW) ?_)⟩
    clear hy
    intro e a' Wa hpost
    cases e with
    | normal =>
      obtain ⟨hkr, hb⟩ := hpost
      have hla := (hkr.2 (w.heap.size + 1) (by omega) (by omega)).trans hl
      have hka := (hkr.2 w.heap.size (by omega) (by omega)).trans hk
      refine ⟨_, run_beginRound hla (by rw [hrec]), ?_⟩
      have hlta : w.heap.size + 1 < Wa.heap.size := (Array.getElem?_eq_some_iff.1 hla).1
      have hl2 : (Wa.putObj (w.heap.size + 1) (.loop { rec .ready none with state := .busy })).heap[w.heap.size + 1]? = some (.loop { rec .ready none with state := .busy }) := World.putObj_heap_same hlta
      have hk2 : (Wa.putObj (w.heap.size + 1) (.loop { rec .ready none with state := .busy })).heap[w.heap.size]? = some (.deferred (some [])) := (World.putObj_heap_other (by omega)).trans hka
      refine wpIn_mono (hb _ (grownBy_putObj' _ _ _)) ?_
      have fin : ∀ (jump : Option Code) (W3 : World), KeepR w.heap.size hi (Wa.putObj (w.heap.size + 1) (.loop { rec .ready none with state := .busy })) W3 →
          (Instr.endRound (w.heap.size + 1) jump).run P W3 = .ok (.bool jump.isNone) (W3.putObj (w.heap.size + 1) (.loop (rec (if jump.isNone then .ready else .done) jump))) ∧
          W3.heap[w.heap.size + 1]? = some (.loop { rec .ready none with state := .busy }) ∧
          (W3.putObj (w.heap.size + 1) (.loop (rec (if jump.isNone then .ready else .done) jump))).heap[w.heap.size + 1]? = some (.loop (rec (if jump.isNone then .ready else .done) jump)) ∧
          (W3.putObj (w.heap.size + 1) (.loop (rec (if jump.isNone then .ready else .done) jump))).heap[w.heap.size]? = some (.deferred (some [])) ∧
          KeepR W1.heap.size hi W (W3.putObj (w.heap.size + 1) (.loop (rec (if jump.isNone then .ready else .done) jump))) := fun jump W3 hk3 => by
        have hl3 := (hk3.2 (w.heap.size + 1) (by omega) (by omega)).trans hl2
        have := run_endRound (P := P) jump hl3
        rw [hrec] at this ⊢
        refine ⟨this, by rw [hrec] at hl3; exact hl3, World.putObj_heap_same (Array.getElem?_eq_some_iff.1 hl3).1, (World.putObj_heap_other (by omega)).trans ((hk3.2 w.heap.size (by omega) (by omega)).trans hk2), ?_, fun g h1 h2 => ?_⟩
        · have := hk3.1; simpa [World.putObj] using this
        · refine (World.putObj_heap_other (by omega)).trans ((hk3.2 g (by omega) h2).trans ((World.putObj_heap_other (by omega)).trans (hkr.2 g (by omega) h2)))
      rintro e a3 W3 hp3
      cases e with
      | normal =>
        obtain ⟨hr, hl3, hl4, hk4, hk5⟩ := fin none W3 hp3.1
        exact ⟨_, _, hr, .inl ⟨rfl, ⟨hI hi _ _ _ _ hp3.2 (grownBy_putObj' _ _ _) (fun x e => by cases e; omega), hl4, hk4⟩, hk5⟩⟩
      | ret =>
        obtain ⟨hr, hl3, hl4, hk4, hk5⟩ := fin (some .ret) W3 hp3.1
        exact ⟨_, _, hr, .inr ⟨rfl, .ret, hIx _ hi _ _ _ _ hp3.2 (grownBy_putObj' _ _ _) (fun x e => by cases e; omega), hl4, hk4⟩⟩
      | exit id =>
        obtain ⟨hr, hl3, hl4, hk4, hk5⟩ := fin (some (.exit id)) W3 hp3.1
        exact ⟨_, _, hr, .inr ⟨rfl, .exit id, hIx _ hi _ _ _ _ hp3.2 (grownBy_putObj' _ _ _) (fun x e => by cases e; omega), hl4, hk4⟩⟩
      | goto t =>
        obtain ⟨hr, hl3, hl4, hk4, hk5⟩ := fin (some (.goto t)) W3 hp3.1
        exact ⟨_, _, hr, .inr ⟨rfl, .goto t, hIx _ hi _ _ _ _ hp3.2 (grownBy_putObj' _ _ _) (fun x e => by cases e; omega), hl4, hk4⟩⟩
      | panic ch => exact hp3.elim
      | outgrown => exact hp3.elim
    | ret => exact hpost.elim
    | exit id => exact hpost.elim
    | goto t => exact hpost.elim
    | panic ch => exact hpost.elim
    | outgrown => exact hpost.elim
  · rintro e W2 ⟨⟨v, rfl⟩, hi, hhi, (⟨hi', hl, hk⟩ | ⟨i, hiN, c, hi', hl, hk⟩)⟩
    · exact ⟨none, _, by have := run_endLoop (P := P) hl (by rw [hrec]; simp); rw [hrec] at this; exact this, hdone hi _ (by omega) (hI hi _ _ _ _ hi' (grownBy_putObj' _ _ _) (fun x e => by cases e; omega)) ((World.putObj_heap_other (by omega)).trans hk)⟩
    · exact ⟨some c, _, by have := run_endLoop (P := P) hl (by rw [hrec]; simp); rw [hrec] at this; exact this, wpIn_wide.2 (hstop c hi i _ (by omega) hiN (hIx c hi _ _ _ _ hi' (grownBy_putObj' _ _ _) (fun x e => by cases e; omega)) ((World.putObj_heap_other (by omega)).trans hk))⟩
end Go.Proofs.Ytfifldbinnkdmaa
/- Marks of ranges over a function as a resource; a walk's stop; loops and returns with marks. -/
namespace Go.Proofs.Ytfifldbinnkdmaa
open Go.RowKit Go.Shelf

/-- A region that draws, in a round's fence, by the calculus of drawn regions. -/
theorem ru_beginIn {P : Program} {ops : Array Oper} {Q : Exit → Act → World → Prop} {l n id : Nat} {a : Act} {w : World} (S : World → Prop) (d : Nat) (hm : P.follows .mixedOrders = true) (hd : noDefer ops = true) (hQ : ¬ LetsOut Q) (hS : S w.drew)
    (h : wpAnyU P .any ops Q S d ops.size (Array.replicate ops.size false) a w.drew) : (Code.region id ops true).wpIn (Fence.wide.inRound l) n P Q a w :=
  wpIn_draw hm hd hQ (wpAny_of_U _ _ _ _ h)
/-- No panic. -/
def calmQ (Q : Exit → Act → World → Prop) : Exit → Act → World → Prop
  | .panic _, _, _ => False
  | .outgrown, _, _ => False
  | e, a, w => Q e a w
theorem calmQ_le {Q : Exit → Act → World → Prop} (e : Exit) (a : Act) (w : World) (h : calmQ Q e a w) : Q e a w := by
  cases e <;> first | exact h | exact h.elim
/-- A block that is read alone. -/
def rfix (g : Nat) (t : TypeId) (cs : Array Value) : Res := ⟨false, fun x => x = g, fun w => Bk w g t cs, fun _ _ _ hg hr h => Bk.gb h hg (fun e => hr g e.symm rfl)⟩
theorem Bun.fix0 {w0 : World} {L : List Res} {g : Nat} {t : TypeId} {cs : Array Value} (h : Bun w0 L w0) (hs : Bk w0 g t cs) (hm : L.all (fun r => !r.mine) = true) : Bun w0 (rfix g t cs :: L) w0 := by
  have hm' : ∀ r ∈ L, r.mine = false := fun r hr => by have := List.all_eq_true.1 hm r hr; simpa using this
  refine ⟨fun r hr => ?_, fun r hr g hx => ?_, ?_, h.gb⟩
  · rcases List.mem_cons.1 hr with rfl | hr
    · exact hs
    · exact h.all r hr
  · rcases List.mem_cons.1 hr with rfl | hr
    · cases hx; exact ⟨hs.lt, fun e => by cases e⟩
    · exact h.bd r hr g hx
  · rw [List.pairwise_cons]
    exact ⟨(fun x hx hmm => by
      rw [hm' x hx] at hmm
      rcases hmm with h1 | h1 <;> cases h1), h.dis⟩
theorem Bun.non0 {w0 : World} {L : List Res} (r0 : Res) (h : Bun w0 L w0) (hs : r0.P w0) (hx : ∀ g, r0.X g → g < w0.heap.size) (hr0 : r0.mine = false) (hm : L.all (fun r => !r.mine) = true) : Bun w0 (r0 :: L) w0 := by
  have hm' : ∀ r ∈ L, r.mine = false := fun r hr => by have := List.all_eq_true.1 hm r hr; simpa using this
  refine ⟨fun r hr => ?_, fun r hr g hx' => ?_, ?_, h.gb⟩
  · rcases List.mem_cons.1 hr with rfl | hr
    · exact hs
    · exact h.all r hr
  · rcases List.mem_cons.1 hr with rfl | hr
    · exact ⟨hx g hx', fun e => by rw [hr0] at e; cases e⟩
    · exact h.bd r hr g hx'
  · rw [List.pairwise_cons]
    exact ⟨(fun x hx hmm => by
      rw [hm' x hx, hr0] at hmm
      rcases hmm with h1 | h1 <;> cases h1), h.dis⟩
theorem flat_at' {α : Type} {enc : α → List Value} {sz : Nat} (hsz : ∀ x, (enc x).length = sz) : ∀ (l : List α) (i : Nat) (x : α), l[i]? = some x → ∀ j u, (enc x)[j]? = some u → (l.flatMap enc)[i * sz + j]? = some u := by
  intro l
  induction l with
  | nil => intro i x h; simp at h
  | cons y l ih =>
    intro i x hi j u hj
    have hjl : j < sz := by have := (List.getElem?_eq_some_iff.1 hj).1; rw [hsz] at this; exact this
    rw [List.flatMap_cons]
    cases i with
    | zero =>
      simp at hi
      subst hi
      rw [List.getElem?_append_left (by rw [hsz]; omega)]
      simpa using hj
    | succ i =>
      rw [List.getElem?_append_right (by rw [hsz, Nat.succ_mul]; omega), hsz]
      have : (i + 1) * sz + j - sz = i * sz + j := by rw [Nat.succ_mul]; omega
      rw [this]
      exact ih i x (by simpa using hi) j u hj
/-- A literal is read as a list from here on. -/
theorem Bun.lit {α : Type} (enc : α → List Value) (sz : Nat) (l : List α) (c : Nat) {w0 A : World} {L : List Res} {g : Nat} {t : TypeId} {cs : Array Value} (h : Bun w0 (rbox g t cs :: L) A) (hsz : ∀ x, (enc x).length = sz) (hcs : cs.toList = l.flatMap enc) (hl : l.length ≤ 1000) :
    Bun w0 (rsl enc sz g (g + 1) (.slice (some ⟨g, 0, none⟩) l.length c) l :: L) A := by
  have hb : Bk A g t cs := h.all _ (.head _)
  have hs : Sl enc sz g (g + 1) A (.slice (some ⟨g, 0, none⟩) l.length c) l :=
    ⟨by unfold maxLen; omega, _, c, rfl, .inr ⟨g, 0, rfl, Nat.le_refl _, by omega, fun i x hi j u hj => by
      have h1 := flat_at' hsz l i x hi j u hj
      rw [← hcs] at h1
      rw [show 0 + i * sz + j = i * sz + j by omega, hb.cell]
      simpa using h1⟩⟩
  have hd := h.dis
  rw [List.pairwise_cons] at hd
  refine ⟨fun r hr => ?_, fun r hr x hx => ?_, ?_, h.gb⟩
  · rcases List.mem_cons.1 hr with rfl | hr
    · exact hs
    · exact h.all r (.tail _ hr)
  · rcases List.mem_cons.1 hr with rfl | hr
    · have e : x = g := by have := hx.1; have := hx.2; omega
      subst e
      exact ⟨hb.lt, fun e => by cases e⟩
    · exact h.bd r (.tail _ hr) x hx
  · rw [List.pairwise_cons]
    refine ⟨fun x hx hm y hy1 hy2 => ?_, hd.2⟩
    have e : y = g := by have := hy1.1; have := hy1.2; omega
    subst e
    exact hd.1 x hx (.inl rfl) y rfl hy2
def rmarks (Ds : List Nat) : Res :=
  ⟨true, fun x => x ∈ Ds, fun w => Ds.Nodup ∧ ∀ D ∈ Ds, w.heap[D]? = some (.deferred (some [])), fun _ _ _ hg hr h => ⟨h.1, fun D hD => (hg.block D (Array.getElem?_eq_some_iff.1 (h.2 D hD)).1 (fun e => hr D e.symm hD)).trans (h.2 D hD)⟩⟩
def mkD (D : Nat) : Deferred := { target := .collected D, args := #[] }
section
variable {w0 A B : World} {L : List Res} {sd : Nat}
theorem Bun.marks0 (h : Bun w0 L A) : Bun w0 (rmarks [] :: L) A := h.add (rmarks []) (gb_refl _ _) ⟨List.nodup_nil, fun _ h => by cases h⟩ fun _ e => by cases e
theorem Bun.mark {lo hi : Nat} {W0 : World} {Ds : List Nat} (h : Bun w0 (rkeep lo hi W0 :: rmarks Ds :: L) A) (hlt : lo < hi) (hk : A.heap[lo]? = some (.deferred (some []))) : Bun w0 (rmarks (lo :: Ds) :: L) A := by
  have h1 : KeepR lo hi W0 A := h.all _ (.head _)
  have h2 : Ds.Nodup ∧ ∀ D ∈ Ds, A.heap[D]? = some (.deferred (some [])) := h.all _ (.tail _ (.head _))
  have hd := h.dis
  rw [List.pairwise_cons] at hd
  have hd2 := hd.2
  rw [List.pairwise_cons] at hd2
  have hn : lo ∉ Ds := fun hm => hd.1 _ (.head _) (.inl rfl) lo ⟨Nat.le_refl _, hlt⟩ hm
  refine ⟨fun r hr => ?_, fun r hr g hx => ?_, ?_, h.gb⟩
  · rcases List.mem_cons.1 hr with rfl | hr
    · exact ⟨List.nodup_cons.2 ⟨hn, h2.1⟩, fun D hD => by
        rcases List.mem_cons.1 hD with rfl | hD
        · exact hk
        · exact h2.2 D hD⟩
    · exact h.all r (.tail _ (.tail _ hr))
  · rcases List.mem_cons.1 hr with rfl | hr
    · rcases List.mem_cons.1 hx with rfl | hx
      · exact h.bd _ (.head _) g ⟨Nat.le_refl _, hlt⟩
      · exact h.bd _ (.tail _ (.head _)) g hx
    · exact h.bd r (.tail _ (.tail _ hr)) g hx
  · rw [List.pairwise_cons]
    refine ⟨fun x hx hm g hg1 hg2 => ?_, hd2.2⟩
    rcases List.mem_cons.1 hg1 with rfl | hg1
    · exact hd.1 x (.tail _ hx) (.inl rfl) g ⟨Nat.le_refl _, hlt⟩ hg2
    · exact hd2.1 x hx (.inl rfl) g hg1 hg2
theorem Bun.marks {Ds : List Nat} (h : Bun w0 (rmarks Ds :: L) A) : Marks w0.heap.size A (Ds.map mkD) := by
  have h2 : Ds.Nodup ∧ ∀ D ∈ Ds, A.heap[D]? = some (.deferred (some [])) := h.all _ (.head _)
  exact ⟨Ds, rfl, h2.1, fun D hD => ⟨(h.bd _ (.head _) D hD).2 rfl, h2.2 D hD⟩⟩
end
end Go.Proofs.Ytfifldbinnkdmaa
/- A call that turns the seed leaves what is in hand in its order. -/
namespace Go.Proofs.Ytfifldbinnkdmaa
open Go.RowKit
section
variable {w0 A B : World} {L : List Res} {sd : Nat}
theorem Bun.seedAt (i : Nat) {s : Nat} (h : Bun w0 L A) (hi : L[i]? = some (rseed s)) (hg : A.grownBy B (some s)) (hs : SeedAt B s) : Bun w0 L B := by
  have hp := perm_front L i _ hi
  exact ((h.perm hp).seed hg hs).perm hp.symm
theorem Bus.seedAt (i : Nat) {s : Nat} (h : Bus w0 sd L A) (hi : L[i]? = some (rseed s)) (hg : A.grownBy B (some s)) (hs : SeedAt B s) : Bus w0 sd L B := by
  have hp := perm_front L i _ hi
  exact ((h.perm hp).seed hg hs).perm hp.symm
end
theorem Sl.cells0 {α : Type} {enc : α → List Value} {sz lo hi n c x : Nat} {w : World} {l : List α} (h : Sl enc sz lo hi w (.slice (some ⟨x, 0, none⟩) n c) l) {i : Nat} {z : α} (hz : l[i]? = some z) :
    ∀ j u, (enc z)[j]? = some u → w.cell? ⟨x, i * sz + j, none⟩ = some u := fun j u hj => by
  have := h.cells hz j u hj
  rwa [show 0 + i * sz + j = i * sz + j by omega] at this
end Go.Proofs.Ytfifldbinnkdmaa
/- Operations of a drawn region that come first: see Reg. -/
namespace Go.Proofs.Ytfifldbinnkdmaa
end Go.Proofs.Ytfifldbinnkdmaa
/- Operations of a drawn region that are passed over, as their guard says. -/
namespace Go.Proofs.Ytfifldbinnkdmaa
open Go.RowKit
section
variable {P : Program} {ops : Array Oper} {Q : Exit → Act → World → Prop} {md : Region.Mode} {S : World → Prop} {d : Nat}
theorem ru_ts (i : Nat) (path : List Nat) {oi : Oper} {fuel : Nat} {listed : Array Bool} {a : Act} {w : World}
    (h : wpAnyU P md ops Q S d fuel (listed.setIfInBounds i true) (a.put oi.dst undef) w) (hi : ops[i]? = some oi := by rfl)
    (hc : (Region.noSelect ops && Region.free md ops listed i && (Region.ready md ops listed).contains i && pathB md ops d path i && decide (i ≠ d) && !listed.getD d true && closedB md ops listed) = true := by kernel_rfl)
    (hQ : ∀ c a w, Q (.panic c) (a.put oi.dst undef) w → Q (.panic c) a w := by exact fun _ _ _ h => h) (hS : S w := by assumption)
    (hw : Region.wanted oi (yielded ops a.tmps) = false := by first | kernel_rfl | rfl) : wpAnyU P md ops Q S d (fuel + 1) listed a w :=
  ru_take i path hi hc hQ hS (.inr ⟨hw, rfl⟩) h
theorem ru_ps (i : Nat) {oi : Oper} {fuel : Nat} {listed : Array Bool} {a : Act} {w : World}
    (h : wpAnyU P md ops Q S d fuel (listed.setIfInBounds i true) (a.put oi.dst undef) w) (hi : ops[i]? = some oi := by rfl)
    (hc : (Region.noSelect ops && Region.free md ops listed i && (Region.ready md ops listed).contains i && decide (i ≠ d) && closedB md ops listed) = true := by kernel_rfl)
    (hQ : ∀ c a w, Q (.panic c) (a.put oi.dst undef) w → Q (.panic c) a w := by exact fun _ _ _ h => h) (hS : listed.getD d true = false → S w := by exact fun hd_ => by first | assumption | (exact absurd hd_ (by decide)))
    (hw : Region.wanted oi (yielded ops a.tmps) = false := by first | kernel_rfl | rfl) : wpAnyU P md ops Q S d (fuel + 1) listed a w :=
  ru_pure i hi hc hQ hS (.inr ⟨hw, rfl⟩) h
end
end Go.Proofs.Ytfifldbinnkdmaa
/- A copy, in a plain region; a row of one's own that has elements, opened. -/
namespace Go.Proofs.Ytfifldbinnkdmaa
open Go.RowKit
section
variable {α : Type} {P : Program} {t e : TypeId} {sz bytes : Nat} {enc : α → List Value}
theorem wpList_copyB (ok : ElemOk P t e sz bytes enc) {ops : Array Oper} {rest : List Oper} {o : Oper} {a : Act} {Q : Exit → Act → World → Prop} {w0 w : World} {L : List Res} (hgd : o.guard = none) (s x : Operand)
    (ho : o.op = .call { callee := .builtin .append, args := #[s, x], argTypes := #[t, t] }) (base g : Nat) (hs : a.eval s = .slice (some ⟨g, 0, none⟩) 0 0) (hB : Bun w0 (rbox g e #[] :: L) w) (hb : base ≤ g)
    (lo hi : Nat) (v : Value) (l : List α) (hx : a.eval x = v) (hl : Sl enc sz lo hi w v l) (hbig : l.length ≤ 100000000000)
    (h : ∀ v' w', Bun w0 (rown enc e sz base v' l :: L) w' → w.heap.size ≤ w'.heap.size → wpList P ops Q rest (a.put o.dst v') w') : wpList P ops Q (o :: rest) a w := by
  have hg : Bk w g e #[] := hB.at 0 rfl
  refine wpList_plain hgd fun K hK => ?_
  obtain ⟨v', w', hr, h2, h3⟩ := run_copy w ok o.type base g hg lo hi v l hl hbig hb
  have hk := copy_block (base := base) ok o.type hg lo hi v hl hbig hb hr
  unfold Oper.wp execOp
  simp only [ho, resolve, invoke, builtin, Sem.run_bind, Sem.run_pure, Result.andThen_ok, List.map_toArray, List.map_cons, List.map_nil, hs, hx, hr]
  refine hK _ _ (h v' w' (hB.wr rfl h3 (fun k e => by injection e with e; exact e.symm) h2 fun k e => ⟨?_, (h2.lt k e).2⟩) h3.size)
  rcases hk k e with h4 | h4
  · exact .inl h4
  · exact .inr h4
theorem Own.opn {base : Nat} {w : World} {v : Value} {l : List α} (h : Own enc e sz base w v l) (h0 : 0 < l.length) : ∃ g cap, v = .slice (some ⟨g, 0, none⟩) l.length cap := by
  obtain ⟨h1, h2⟩ := h
  rcases h2 with ⟨rfl, hn⟩ | ⟨g, cap, cur, rfl, _⟩
  · omega
  · exact ⟨g, cap, rfl⟩
theorem Own.slG {base : Nat} {w : World} {g n cap : Nat} {l : List α} (h : Own enc e sz base w (.slice (some ⟨g, 0, none⟩) n cap) l) (hsz : ∀ x, (enc x).length = sz) : Sl enc sz g (g + 1) w (.slice (some ⟨g, 0, none⟩) n cap) l := by
  obtain ⟨h1, a, c, h2, h3⟩ := h.sl hsz
  refine ⟨h1, a, c, h2, ?_⟩
  rcases h3 with h3 | ⟨b, off, h4, h5, h6, h7⟩
  · exact .inl h3
  · refine .inr ⟨b, off, h4, ?_, ?_, h7⟩
    · rw [h4] at h2; injection h2 with h2; injection h2 with h2; injection h2 with h2; omega
    · rw [h4] at h2; injection h2 with h2; injection h2 with h2; injection h2 with h2; omega
end
end Go.Proofs.Ytfifldbinnkdmaa
/- make of a row of numbers. -/
namespace Go.Proofs.Ytfifldbinnkdmaa
open Go.RowKit

theorem flat_ints (l : List Int) : l.flatMap intEnc = l.map (fun z => Value.int .i64 z) := by
  induction l with
  | nil => rfl
  | cons z l ih => rw [List.flatMap_cons, ih]; rfl
theorem wpList_mkInt {ops : Array Oper} {rest : List Oper} {o : Oper} {a : Act} {Q : Exit → Act → World → Prop} {w0 w : World} {L : List Res} (hgd : o.guard = none) (l c : Operand) (ho : o.op = .makeSlice 26 l c)
    (n : Nat) (hl : a.eval l = .int .i64 (n : Int)) (hc : a.eval c = .int .i64 (n : Int)) (hB : Bun w0 L w) (hn : n ≤ 100000) (g : Nat) (hg : w.heap.size = g)
    (h : ∀ w', Bun w0 (rown intEnc 3 1 w0.heap.size (.slice (some ⟨g, 0, none⟩) n n) (List.replicate n 0) :: L) w' → w.heap.size ≤ w'.heap.size → wpList Try.prog ops Q rest (a.put o.dst (.slice (some ⟨g, 0, none⟩) n n)) w') : wpList Try.prog ops Q (o :: rest) a w := by
  obtain ⟨i, z, h2, h3, h4, h5, h6⟩ := okInt.info
  subst hg
  have ez : z = .int .i64 0 := by
    have h7 : (Try.prog.info? 3).map (fun i => i.zero) = some (some (.int .i64 0)) := by kernel_rfl
    rw [h2] at h7
    simp only [Option.map_some, Option.some.injEq] at h7
    rw [h3] at h7
    exact Option.some.inj h7
  subst ez
  refine wpList_make_full w hgd l c 26 ho w0.heap.size 3 i (.int .i64 0) 1 Try.underlying26 h2 h3 h4 .i64 .i64 n n n hl hc rfl rfl (by rw [h5]; omega) (by unfold maxLen; omega) hB.gb.size fun w' hw hgb => ?_
  have e : (madeCells (Value.cells (.int .i64 0)) (n * 1)).toList = (List.replicate n (0 : Int)).flatMap intEnc := by
    rw [flat_ints]
    refine List.ext_getElem (by simp [madeCells]) fun j h1 h2 => ?_
    simp [madeCells, Value.cells, Nat.mod_one]
  rw [e] at hw
  have ho' : Own intEnc 3 1 w0.heap.size w' (.slice (some ⟨w.heap.size, 0, none⟩) n n) (List.replicate n 0) := by
    unfold Own
    rw [List.length_replicate]
    exact hw
  refine h w' (hB.add _ hgb ho' fun g hx => ?_) hgb.size
  have hx' : some w.heap.size = some g := hx
  injection hx' with hx'
  subst hx'
  exact ⟨Nat.le_refl _, (ho'.lt _ hx).2⟩
end Go.Proofs.Ytfifldbinnkdmaa
/- What a call hands back in blocks of its own, beside what was in hand. -/
namespace Go.Proofs.Ytfifldbinnkdmaa
open Go.RowKit

theorem Bun.join {w0 A B : World} {sb : Nat} {L L2 : List Res} (h : Bun w0 (rseed sb :: L) A) (h2 : Bus A sb (L2 ++ [rseed sb]) B) (hma : L2.all (fun r => r.mine) = true) : Bun w0 (L2 ++ rseed sb :: L) B := by
  have hm : ∀ r ∈ L2, r.mine = true := fun r hr => by have := List.all_eq_true.1 hma r hr; simpa using this
  have hd := h.dis
  rw [List.pairwise_cons] at hd
  have hd2 := h2.dis
  rw [List.pairwise_append] at hd2
  have hs2 : ∀ r ∈ L2, ¬ r.X sb := fun r hr hx => hd2.2.2 r hr (rseed sb) (by simp) (.inl (hm r hr)) sb hx rfl
  have hsb := h.bd (rseed sb) (.head _) sb rfl
  have hnew : ∀ r ∈ L2, ∀ g, r.X g → A.heap.size ≤ g ∧ g < B.heap.size := fun r hr g hx => by
    obtain ⟨h3, h4⟩ := h2.bd r (List.mem_append_left _ hr) g hx
    refine ⟨?_, h3⟩
    rcases h4 (hm r hr) with h5 | rfl
    · exact h5
    · exact absurd hx (hs2 r hr)
  refine ⟨fun r hr => ?_, fun r hr g hx => ?_, ?_, gb_trans' h.gb h2.gb fun g e => .inr (by cases e; exact hsb.2 rfl)⟩
  · rcases List.mem_append.1 hr with hr | hr
    · exact h2.all r (List.mem_append_left _ hr)
    · rcases List.mem_cons.1 hr with rfl | hr
      · exact h2.all _ (List.mem_append_right _ (List.mem_singleton.2 rfl))
      · exact r.st A B (some sb) h2.gb (fun g e => by cases e; exact fun hx => hd.1 r hr (.inl rfl) sb rfl hx) (h.all r (.tail _ hr))
  · have hsz := h2.gb.size
    rcases List.mem_append.1 hr with hr | hr
    · obtain ⟨h3, h4⟩ := hnew r hr g hx
      exact ⟨h4, fun _ => Nat.le_trans h.gb.size h3⟩
    · obtain ⟨h3, h4⟩ := h.bd r hr g hx
      exact ⟨Nat.lt_of_lt_of_le h3 hsz, h4⟩
  · rw [List.pairwise_append]
    refine ⟨hd2.1, h.dis, fun a ha b hb hab g hx hy => ?_⟩
    have h3 := (hnew a ha g hx).1
    have h4 := (h.bd b hb g hy).1
    omega
end Go.Proofs.Ytfifldbinnkdmaa
/- Ways that part over a piece of code meet again behind it: where the walk is in the piece already. -/
namespace Go.Proofs.Ytfifldbinnkdmaa
open Go.RowKit
theorem cut_then {G : Prop} {K0 : Act → World → Prop} (n : Nat) (R : (Nat → Value) → World → Prop)
    (first : Hid (∀ a' w', a'.tmps.size = n → a'.defers = [] → R (slot a'.tmps) w' → K0 a' w') → G)
    (rest : ∀ t w', R t w' → K0 { tmps := ((List.range n).map t).toArray, defers := [] } w') : G :=
  first (Lib.hid fun a' w' h1 h2 h3 => by
    obtain ⟨T, ds⟩ := a'
    simp only at h1 h2
    subst h2
    have e : T = ((List.range n).map (slot T)).toArray := by
      refine Array.ext (by simp [h1]) fun i h1 h2 => ?_
      simp [slot, h1]
    have hr := rest (slot T) w' h3
    rw [← e] at hr
    exact hr)
end Go.Proofs.Ytfifldbinnkdmaa
/- Ways that part over a piece of code meet again behind it. -/
namespace Go.Proofs.Ytfifldbinnkdmaa
open Go.RowKit
theorem wp_cutH {P : Program} {c : Code} {K0 : Act → World → Prop} {Q : Exit → Act → World → Prop} {a : Act} {w : World} (n : Nat) (R : (Nat → Value) → World → Prop)
    (first : ∀ K : Act → World → Prop, Hid (∀ a' w', a'.tmps.size = n → a'.defers = [] → R (slot a'.tmps) w' → K a' w') → c.wp P (Exit.then K Q) a w)
    (rest : ∀ t w', R t w' → K0 { tmps := ((List.range n).map t).toArray, defers := [] } w') : c.wp P (Exit.then K0 Q) a w :=
  first K0 (Lib.hid fun a' w' h1 h2 h3 => by
    obtain ⟨T, ds⟩ := a'
    simp only at h1 h2
    subst h2
    have e : T = ((List.range n).map (slot T)).toArray := by
      refine Array.ext (by simp [h1]) fun i h1 h2 => ?_
      simp [slot, h1]
    have hr := rest (slot T) w' h3
    rw [← e] at hr
    exact hr)
section
variable {P : Program} {ops : Array Oper} {Q : Exit → Act → World → Prop} {md : Region.Mode} {S : World → Prop} {d : Nat}
theorem ru_four (i j k m : Nat) {oi oj ok om : Oper} {fuel : Nat} {listed : Array Bool} {a : Act} {w : World} (hi : ops[i]? = some oi) (hj : ops[j]? = some oj) (hk : ops[k]? = some ok) (hm : ops[m]? = some om) (hr : Region.ready md ops listed = [i, j, k, m])
    (h1 : RuStep P md ops Q S d fuel listed a w i oi) (h2 : RuStep P md ops Q S d fuel listed a w j oj) (h3 : RuStep P md ops Q S d fuel listed a w k ok) (h4 : RuStep P md ops Q S d fuel listed a w m om) : wpAnyU P md ops Q S d (fuel + 1) listed a w := by
  refine ⟨fun h0 => (by rw [hr] at h0; cases h0), fun x hx => ?_⟩
  rw [hr] at hx
  rcases List.mem_cons.1 hx with rfl | hx
  · exact h1.op hi
  · rcases List.mem_cons.1 hx with rfl | hx
    · exact h2.op hj
    · rcases List.mem_cons.1 hx with rfl | hx
      · exact h3.op hk
      · rw [List.mem_singleton] at hx; subst hx; exact h4.op hm
end
end Go.Proofs.Ytfifldbinnkdmaa
/- A region that draws its order, gone through state by state: what has come up, not in which order. -/
namespace Go.Proofs.Ytfifldbinnkdmaa
open Go.RowKit
section
variable {P : Program} {ops : Array Oper} {Q : Exit → Act → World → Prop} {md : Region.Mode} {S : World → Prop} {d : Nat}
/-- A state of a region: behind it, from wherever its relation I holds. -/
theorem ru_state (n : Nat) (I : (Nat → Value) → World → Prop) (listed' : Array Bool) (fuel' : Nat) {fuel : Nat} {listed : Array Bool} {a : Act} {w : World}
    (h : ∀ t w', I t w' → wpAnyU P md ops Q S d fuel' listed' { tmps := ((List.range n).map t).toArray, defers := [] } w')
    (k : Hid (∀ (l : Array Bool) (a' : Act) (w' : World), l = listed' → a'.tmps.size = n → a'.defers = [] → I (slot a'.tmps) w' → wpAnyU P md ops Q S d fuel' l a' w') → wpAnyU P md ops Q S d fuel listed a w) : wpAnyU P md ops Q S d fuel listed a w :=
  k (Lib.hid fun l a' w' h0 h1 h2 h3 => by
    subst h0
    obtain ⟨T, ds⟩ := a'
    simp only at h1 h2
    subst h2
    have e : T = ((List.range n).map (slot T)).toArray := by
      refine Array.ext (by simp [h1]) fun i h1 h2 => ?_
      simp [slot, h1]
    have hr := h (slot T) w' h3
    rw [← e] at hr
    exact hr)
end
end Go.Proofs.Ytfifldbinnkdmaa
/- A slice is put behind a row of one's own, in a drawn region; a copy there. -/
namespace Go.Proofs.Ytfifldbinnkdmaa
open Go.RowKit
section
variable {α : Type} {P : Program} {t e : TypeId} {sz bytes : Nat} {enc : α → List Value}
theorem wp_appS (ok : ElemOk P t e sz bytes enc) {o : Oper} {a : Act} {K : Act → World → Prop} {Q : Exit → Act → World → Prop} {w0 w : World} {L : List Res} (s x : Operand)
    (ho : o.op = .call { callee := .builtin .append, args := #[s, x], argTypes := #[t, t] }) (base : Nat) (v : Value) (l : List α) (hs : a.eval s = v) (hB : Bun w0 (rown enc e sz base v l :: L) w)
    (lo hi : Nat) (vy : Value) (ys : List α) (hx : a.eval x = vy) (hy : Sl enc sz lo hi w vy ys) (hbig : l.length + ys.length ≤ 100000000000) (hbase : base ≤ w.heap.size)
    (h : ∀ v' w', Bun w0 (rown enc e sz base v' (l ++ ys) :: L) w' → w.heap.size ≤ w'.heap.size → K (a.put o.dst v') w') : o.wp P a w K Q := by
  have hown : Own enc e sz base w v l := hB.at 0 rfl
  by_cases h0 : ys.length = 0
  · obtain ⟨ad, c, rfl, rfl⟩ := hy.nil_ h0
    have hr : (Builtin.append_ #[t, t] o.type #[v, .slice ad 0 c]).run P w = .ok v w := by
      obtain ⟨i, z, h1, h2, h3', h4, h5⟩ := ok.info
      rcases hown.2 with ⟨rfl, _⟩ | ⟨g, cap, cur, rfl, _, _, hnc, _⟩
      · cases ad <;> simp [Builtin.append_, run_underlying ok.under, sizeOf, typeInfo, h1, Builtin.lenOf, Builtin.firstCells, storeCells, loadCells, loadCellsFrom]
      · cases ad <;> simp [Builtin.append_, run_underlying ok.under, sizeOf, typeInfo, h1, Builtin.lenOf, Builtin.firstCells, hnc, storeCells, loadCells, loadCellsFrom]
    unfold Oper.wp execOp
    simp only [ho, resolve, invoke, builtin, Sem.run_bind, Sem.run_pure, Result.andThen_ok, List.map_toArray, List.map_cons, List.map_nil, hs, hx, hr]
    exact h v w (by rw [List.append_nil]; exact hB) (Nat.le_refl _)
  · obtain ⟨b, off, c, rfl, h1, h2, h3⟩ := hy.form (by omega)
    have hfl : ∀ (l : List α) (j : Nat) (u : Value), (l.flatMap enc)[j]? = some u → ∃ i k x, l[i]? = some x ∧ (enc x)[k]? = some u ∧ j = i * sz + k := by
      intro l
      induction l with
      | nil => intro j u h; simp at h
      | cons x l ih =>
        intro j u h
        rw [List.flatMap_cons] at h
        by_cases hj : j < sz
        · rw [List.getElem?_append_left (by rw [ok.len]; exact hj)] at h
          exact ⟨0, j, x, rfl, h, by omega⟩
        · rw [List.getElem?_append_right (by rw [ok.len]; omega), ok.len] at h
          obtain ⟨i, k, y, h1, h2, h3⟩ := ih _ _ h
          exact ⟨i + 1, k, y, h1, h2, by rw [Nat.add_mul]; omega⟩
    refine wp_app w ok s x ho base v l ys hs hown ⟨b, off, none⟩ ys.length c hx rfl (by omega) (fun j u hj => ?_) _ rfl hbig hbase _ rfl fun g cap w' hp => h _ _ (hB.app hp (Nat.le_refl _)) hp.gb.size
    obtain ⟨i, k, x, e1, e2, rfl⟩ := hfl ys j u hj
    obtain ⟨hi, rfl⟩ := List.getElem?_eq_some_iff.1 e1
    have := h3 i hi k u e2
    have hadd : (⟨b, off, none⟩ : Addr).add (i * sz + k) = ⟨b, off + i * sz + k, none⟩ := by
      unfold Addr.add
      split <;> simp_all <;> omega
    rw [hadd]
    exact this
theorem step_appS (ok : ElemOk P t e sz bytes enc) {ops : Array Oper} {o : Oper} {a : Act} {K : Act → World → Prop} {Q : Exit → Act → World → Prop} {E : Prop} {w0 w : World} {L : List Res} (hgd : o.guard = none) (s x : Operand)
    (ho : o.op = .call { callee := .builtin .append, args := #[s, x], argTypes := #[t, t] }) (base : Nat) (v : Value) (l : List α) (hs : a.eval s = v) (hB : Bun w0 (rown enc e sz base v l :: L) w)
    (lo hi : Nat) (vy : Value) (ys : List α) (hx : a.eval x = vy) (hy : Sl enc sz lo hi w vy ys) (hbig : l.length + ys.length ≤ 100000000000) (hbase : base ≤ w.heap.size)
    (h : ∀ v' w', Bun w0 (rown enc e sz base v' (l ++ ys) :: L) w' → w.heap.size ≤ w'.heap.size → K (a.put o.dst v') w') : if Region.wanted o (yielded ops a.tmps) = true then Oper.wp P o a w K Q else E := by
  have hw : Region.wanted o (yielded ops a.tmps) = true := by simp [Region.wanted, hgd]
  rw [if_pos hw]
  exact wp_appS ok s x ho base v l hs hB lo hi vy ys hx hy hbig hbase h
end
end Go.Proofs.Ytfifldbinnkdmaa
