/- Ice, days, laws that come in, opened. -/
import Derived.Test.YthblaiefalbomaaOpenG
import Derived.Test.YthblaiefalbomaaF14
set_option linter.unusedVariables false
set_option linter.unusedSimpArgs false
set_option linter.unnecessarySimpa false
namespace Go.Proofs.Ythblaiefalbomaa
open Go.ChangeShapes Go.WideShapes Go.ChangeAt Go.RowKit
set_option maxRecDepth 100000
theorem cells_ice : Try.prog.cellsOf 32 = 8 := by kernel_rfl
theorem reads_ice : Reads Try.prog 32 iceEnc (fun _ => True) := fun n cs y h => by
  obtain ⟨hl, m, hf⟩ := trod_fields Try.underlying32 h
  rw [cells_ice] at hl
  have f0 := hf 0
  have f1 := hf 1
  have f2 := hf 2
  have f3 := hf 3
  simp only [List.getElem?_toArray, List.getElem?_cons_zero, List.getElem?_cons_succ, Option.some.injEq, forall_eq'] at f0 f1 f2 f3
  obtain ⟨y0, h0⟩ := f0
  obtain ⟨y1, h1⟩ := f1
  obtain ⟨y2, h2⟩ := f2
  obtain ⟨y3, h3⟩ := f3
  rw [cells_span] at h0 h1 h2 h3
  obtain ⟨a, e0, _⟩ := reads_span m _ _ h0
  obtain ⟨b, e1, _⟩ := reads_span m _ _ h1
  obtain ⟨c, e2, _⟩ := reads_span m _ _ h2
  obtain ⟨d, e3, _⟩ := reads_span m _ _ h3
  match cs, hl with
  | [x0, x1, x2, x3, x4, x5, x6, x7], _ =>
    simp [spEnc] at e0 e1 e2 e3
    obtain ⟨rfl, rfl⟩ := e0
    obtain ⟨rfl, rfl⟩ := e1
    obtain ⟨rfl, rfl⟩ := e2
    obtain ⟨rfl, rfl⟩ := e3
    exact ⟨⟨a, b, c, d⟩, rfl, trivial⟩
theorem ice_of_trod {H : Type} {enc : TypeId × Value → H} {w : World} {base : Nat} {spare : Nat → Bool} {held : Bool} {v : Value} {d : DataW H} {p : List MemPlace} {r : Reach} {b0 : Nat}
    (hv : Value.okWide Try.prog w r b0 32 v) (h : DataW.Trod enc Try.prog w base spare held 32 v d p) : ∃ x : Ice, v = .agg (iceC x) := by
  obtain ⟨x, e, _⟩ := agg_of_trod Try.underlying32 reads_ice hv h
  exact ⟨x, e⟩
end Go.Proofs.Ythblaiefalbomaa
