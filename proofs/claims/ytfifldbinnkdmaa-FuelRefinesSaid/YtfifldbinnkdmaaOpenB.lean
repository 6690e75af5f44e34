/- Books and truths that come in. -/
import Derived.Test.YtfifldbinnkdmaaOpen
import Derived.Test.YtfifldbinnkdmaaHasB
set_option linter.unusedVariables false
set_option linter.unusedSimpArgs false
set_option linter.unnecessarySimpa false
namespace Go.Proofs.Ytfifldbinnkdmaa
open Go.ChangeShapes Go.WideShapes Go.ChangeAt Go.RowKit
set_option maxRecDepth 100000
theorem cells_str : Try.prog.cellsOf 9 = 1 := by kernel_rfl
theorem cells_acc : Try.prog.cellsOf 79 = 6 := by kernel_rfl
theorem cells_move : Try.prog.cellsOf 76 = 4 := by kernel_rfl
theorem reads_acc : Reads Try.prog 79 accEnc (fun a => a.name.size ≤ maxLen) := fun n cs y h => by
  obtain ⟨hl, m, hf⟩ := trod_fields Try.underlying79 h
  rw [cells_acc] at hl
  have f0 := hf 0
  have f1 := hf 1
  have f2 := hf 2
  have f3 := hf 3
  simp only [List.getElem?_toArray, List.getElem?_cons_zero, List.getElem?_cons_succ, Option.some.injEq, forall_eq'] at f0 f1 f2 f3
  obtain ⟨y0, h0⟩ := f0
  obtain ⟨y1, h1⟩ := f1
  obtain ⟨y2, h2⟩ := f2
  obtain ⟨y3, h3⟩ := f3
  rw [cells_str] at h0
  rw [cells_int] at h1
  rw [cells_span] at h2 h3
  obtain ⟨s, e0, _, hs⟩ := DataW.trod_string Try.underlying9 h0
  obtain ⟨k, e1, _⟩ := reads_int m _ _ h1
  obtain ⟨o, e2, _⟩ := reads_span m _ _ h2
  obtain ⟨c, e3, _⟩ := reads_span m _ _ h3
  match cs, hl with
  | [x0, x1, x2, x3, x4, x5], _ =>
    simp [intEnc, spEnc] at e0 e1 e2 e3
    obtain ⟨e2, e4⟩ := e2
    obtain ⟨e3, e5⟩ := e3
    subst e0 e1 e2 e3 e4 e5
    exact ⟨⟨s, k, o, c⟩, rfl, hs⟩
theorem reads_move : Reads Try.prog 76 mvEnc (fun _ => True) := fun n cs y h => by
  obtain ⟨hl, m, hf⟩ := trod_fields Try.underlying76 h
  rw [cells_move] at hl
  have f0 := hf 0
  have f1 := hf 1
  have f2 := hf 2
  simp only [List.getElem?_toArray, List.getElem?_cons_zero, List.getElem?_cons_succ, Option.some.injEq, forall_eq'] at f0 f1 f2
  obtain ⟨y0, h0⟩ := f0
  obtain ⟨y1, h1⟩ := f1
  obtain ⟨y2, h2⟩ := f2
  rw [cells_int] at h0 h1
  rw [cells_span] at h2
  obtain ⟨a, e0, _⟩ := reads_int m _ _ h0
  obtain ⟨b, e1, _⟩ := reads_int m _ _ h1
  obtain ⟨o, e2, _⟩ := reads_span m _ _ h2
  match cs, hl with
  | [x0, x1, x2, x3], _ =>
    simp [intEnc, spEnc] at e0 e1 e2
    obtain ⟨e2, e4⟩ := e2
    subst e0 e1 e2 e4
    exact ⟨⟨a, b, o⟩, rfl, trivial⟩
/-- A book that comes in. -/
theorem book_of_trod {H : Type} {enc : TypeId × Value → H} {w : World} {base : Nat} {spare : Nat → Bool} {held : Bool} {v : Value} {d : DataW H} {p : List MemPlace} {r : Reach} {b0 : Nat}
    (hv : Value.okWide Try.prog w r b0 25 v) (h : DataW.Trod enc Try.prog w base spare held 25 v d p) : ∃ va vm b, v = .agg #[va, vm] ∧ HasB 0 w.heap.size w va vm b ∧ nameOk b.accs := by
  obtain ⟨cs, rfl, hsz⟩ := okWide_struct Try.underlying25 hv
  obtain ⟨fuel, hf⟩ := h
  obtain ⟨hl, m, hf⟩ := trod_fields Try.underlying25 hf
  have hc : Try.prog.cellsOf 25 = 2 := by kernel_rfl
  have hc1 : Try.prog.cellsOf 22 = 1 := by kernel_rfl
  have hc2 : Try.prog.cellsOf 23 = 1 := by kernel_rfl
  have f0 := hf 0
  have f1 := hf 1
  simp only [List.getElem?_toArray, List.getElem?_cons_zero, List.getElem?_cons_succ, Option.some.injEq, forall_eq'] at f0 f1
  obtain ⟨y0, h0⟩ := f0
  obtain ⟨y1, h1⟩ := f1
  rw [hc1] at h0
  rw [hc2] at h1
  obtain ⟨v0, al, e0, i0, n0⟩ := sl_of_trod Try.underlying22 cells_acc (by omega) reads_acc h0
  obtain ⟨v1, ms, e1, i1, _⟩ := sl_of_trod Try.underlying23 cells_move (by omega) reads_move h1
  rw [hc] at hsz
  obtain ⟨cs⟩ := cs
  match cs, hsz with
  | [x, y], _ =>
    simp [Value.cells] at e0 e1
    subst e0 e1
    exact ⟨_, _, ⟨al, ms⟩, rfl, ⟨i0, i1⟩, n0⟩
/-- A truth that comes in. -/
theorem truth_of_trod {H : Type} {enc : TypeId × Value → H} {w : World} {base : Nat} {spare : Nat → Bool} {held : Bool} {v : Value} {d : DataW H} {p : List MemPlace} {r : Reach} {b0 : Nat}
    (hv : Value.okWide Try.prog w r b0 32 v) (h : DataW.Trod enc Try.prog w base spare held 32 v d p) : ∃ vo vc vv O C V, v = .agg #[vo, vc, vv] ∧ Ints 0 w.heap.size w vo O ∧ Ints 0 w.heap.size w vc C ∧ Ints 0 w.heap.size w vv V := by
  obtain ⟨cs, rfl, hsz⟩ := okWide_struct Try.underlying32 hv
  obtain ⟨fuel, hf⟩ := h
  obtain ⟨hl, m, hf⟩ := trod_fields Try.underlying32 hf
  have hc : Try.prog.cellsOf 32 = 3 := by kernel_rfl
  have hc2 : Try.prog.cellsOf 26 = 1 := by kernel_rfl
  have f0 := hf 0
  have f1 := hf 1
  have f2 := hf 2
  simp only [List.getElem?_toArray, List.getElem?_cons_zero, List.getElem?_cons_succ, Option.some.injEq, forall_eq'] at f0 f1 f2
  obtain ⟨y0, h0⟩ := f0
  obtain ⟨y1, h1⟩ := f1
  obtain ⟨y2, h2⟩ := f2
  rw [hc2] at h0 h1 h2
  obtain ⟨v0, O, e0, i0, _⟩ := sl_of_trod Try.underlying26 cells_int (by omega) reads_int h0
  obtain ⟨v1, C, e1, i1, _⟩ := sl_of_trod Try.underlying26 cells_int (by omega) reads_int h1
  obtain ⟨v2, V, e2, i2, _⟩ := sl_of_trod Try.underlying26 cells_int (by omega) reads_int h2
  rw [hc] at hsz
  obtain ⟨cs⟩ := cs
  match cs, hsz with
  | [x, y, z], _ =>
    simp [Value.cells] at e0 e1 e2
    subst e0 e1 e2
    exact ⟨_, _, _, O, C, V, rfl, i0, i1, i2⟩
end Go.Proofs.Ytfifldbinnkdmaa
