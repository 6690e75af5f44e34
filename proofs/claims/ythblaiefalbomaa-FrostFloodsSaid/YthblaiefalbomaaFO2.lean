/- Laws and days that come in, opened. -/
import Derived.Test.YthblaiefalbomaaFO
import Derived.Test.YthblaiefalbomaaF29
set_option linter.unusedVariables false
set_option linter.unusedSimpArgs false
set_option linter.unnecessarySimpa false
namespace Go.Proofs.Ythblaiefalbomaa
open Go.ChangeShapes Go.WideShapes Go.ChangeAt Go.RowKit
set_option maxRecDepth 100000
theorem cells_cover : Try.prog.cellsOf 93 = 3 := by kernel_rfl
theorem cells_weather : Try.prog.cellsOf 35 = 6 := by kernel_rfl
theorem cells_frost : Try.prog.cellsOf 29 = 8 := by kernel_rfl
theorem cells_bool : Try.prog.cellsOf 4 = 1 := by kernel_rfl
theorem cells_covers : Try.prog.cellsOf 25 = 1 := by kernel_rfl
theorem reads_cover : Reads Try.prog 93 covEnc (fun _ => True) := fun n cs y h => by
  obtain ⟨hl, m, hf⟩ := trod_fields Try.underlying93 h
  rw [cells_cover] at hl
  have f0 := hf 0
  have f1 := hf 1
  simp only [List.getElem?_toArray, List.getElem?_cons_zero, List.getElem?_cons_succ, Option.some.injEq, forall_eq'] at f0 f1
  obtain ⟨y0, h0⟩ := f0
  obtain ⟨y1, h1⟩ := f1
  rw [cells_int] at h0
  rw [cells_span] at h1
  obtain ⟨a, e0, _⟩ := reads_int m _ _ h0
  obtain ⟨b, e1, _⟩ := reads_span m _ _ h1
  match cs, hl with
  | [x0, x1, x2], _ =>
    simp [intEnc, spEnc] at e0 e1
    subst e0
    obtain ⟨rfl, rfl⟩ := e1
    exact ⟨⟨a, b⟩, rfl, trivial⟩
theorem reads_weather : Reads Try.prog 35 weaEnc (fun _ => True) := fun n cs y h => by
  obtain ⟨hl, m, hf⟩ := trod_fields Try.underlying35 h
  rw [cells_weather] at hl
  have f0 := hf 0
  have f1 := hf 1
  have f2 := hf 2
  have f3 := hf 3
  simp only [List.getElem?_toArray, List.getElem?_cons_zero, List.getElem?_cons_succ, Option.some.injEq, forall_eq'] at f0 f1 f2 f3
  obtain ⟨y0, h0⟩ := f0
  obtain ⟨y1, h1⟩ := f1
  obtain ⟨y2, h2⟩ := f2
  obtain ⟨y3, h3⟩ := f3
  rw [cells_span] at h0 h1
  rw [cells_int] at h2
  rw [cells_bool] at h3
  obtain ⟨a, e0, _⟩ := reads_span m _ _ h0
  obtain ⟨b, e1, _⟩ := reads_span m _ _ h1
  obtain ⟨c, e2, _⟩ := reads_int m _ _ h2
  obtain ⟨d, e3, _⟩ := DataW.trod_bool Try.underlying4 h3
  match cs, hl with
  | [x0, x1, x2, x3, x4, x5], _ =>
    simp [intEnc, spEnc] at e0 e1 e2 e3
    obtain ⟨rfl, rfl⟩ := e0
    obtain ⟨rfl, rfl⟩ := e1
    subst e2 e3
    exact ⟨⟨a, b, c, d⟩, rfl, trivial⟩
theorem days_of_trod {H : Type} {enc : TypeId × Value → H} {w : World} {base : Nat} {spare : Nat → Bool} {held : Bool} {v : Value} {d : DataW H} {p : List MemPlace} {r : Reach} {b0 : Nat}
    (hv : Value.okWide Try.prog w r b0 36 v) (h : DataW.Trod enc Try.prog w base spare held 36 v d p) : ∃ l : List Wea, Sl weaEnc 6 0 w.heap.size w v l := by
  obtain ⟨a, n, c, rfl⟩ := okWide_slice Try.underlying36 hv
  obtain ⟨fuel, hf⟩ := h
  obtain ⟨v0, hs, e0, i0, _⟩ := sl_of_trod Try.underlying36 cells_weather (by omega) reads_weather hf
  simp [Value.cells] at e0
  subst e0
  exact ⟨hs, i0⟩
theorem fro_of_trod {H : Type} {enc : TypeId × Value → H} {w : World} {base : Nat} {spare : Nat → Bool} {held : Bool} {v : Value} {d : DataW H} {p : List MemPlace} {r : Reach} {b0 : Nat}
    (hv : Value.okWide Try.prog w r b0 29 v) (h : DataW.Trod enc Try.prog w base spare held 29 v d p) : ∃ (l : Fro) (vc : Value), v = .agg (froC l vc) ∧ Sl covEnc 3 0 w.heap.size w vc l.cov := by
  obtain ⟨cs, rfl, hsz⟩ := okWide_struct Try.underlying29 hv
  obtain ⟨fuel, hf⟩ := h
  obtain ⟨hl, m, hf⟩ := trod_fields Try.underlying29 hf
  have f0 := hf 0
  have f1 := hf 1
  have f2 := hf 2
  have f3 := hf 3
  have f4 := hf 4
  have f5 := hf 5
  simp only [List.getElem?_toArray, List.getElem?_cons_zero, List.getElem?_cons_succ, Option.some.injEq, forall_eq'] at f0 f1 f2 f3 f4 f5
  obtain ⟨y0, h0⟩ := f0
  obtain ⟨y1, h1⟩ := f1
  obtain ⟨y2, h2⟩ := f2
  obtain ⟨y3, h3⟩ := f3
  obtain ⟨y4, h4⟩ := f4
  obtain ⟨y5, h5⟩ := f5
  rw [cells_int] at h0 h1 h4
  rw [cells_span] at h3 h5
  rw [cells_covers] at h2
  obtain ⟨g, e0, _⟩ := reads_int m _ _ h0
  obtain ⟨la, e1, _⟩ := reads_int m _ _ h1
  obtain ⟨v2, cv, e2, i2, _⟩ := sl_of_trod Try.underlying25 cells_cover (by omega) reads_cover h2
  obtain ⟨ml, e3, _⟩ := reads_span m _ _ h3
  obtain ⟨sk, e4, _⟩ := reads_int m _ _ h4
  obtain ⟨wh, e5, _⟩ := reads_span m _ _ h5
  rw [cells_frost] at hsz
  obtain ⟨cs⟩ := cs
  match cs, hsz with
  | [x0, x1, x2, x3, x4, x5, x6, x7], _ =>
    simp [Value.cells, intEnc, spEnc] at e0 e1 e2 e3 e4 e5
    subst e0 e1 e2 e4
    obtain ⟨rfl, rfl⟩ := e3
    obtain ⟨rfl, rfl⟩ := e5
    exact ⟨⟨g, la, cv, ml, sk, wh⟩, _, rfl, i2⟩
end Go.Proofs.Ythblaiefalbomaa
