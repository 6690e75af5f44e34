/- Burns and spans that come in, opened. -/
import Derived.Test.YtfifldbinnkdmaaOpen
import Derived.Test.YtfifldbinnkdmaaBurn3
set_option linter.unusedVariables false
set_option linter.unusedSimpArgs false
set_option linter.unnecessarySimpa false
namespace Go.Proofs.Ytfifldbinnkdmaa
open Go.ChangeShapes Go.WideShapes Go.ChangeAt Go.RowKit
set_option maxRecDepth 100000
theorem cells_burn : Try.prog.cellsOf 136 = 3 := by kernel_rfl
theorem reads_burn : Reads Try.prog 136 bnEnc (fun _ => True) := fun n cs y h => by
  obtain ⟨hl, m, hf⟩ := trod_fields Try.underlying136 h
  rw [cells_burn] at hl
  have f0 := hf 0
  have f1 := hf 1
  simp only [List.getElem?_toArray, List.getElem?_cons_zero, List.getElem?_cons_succ, Option.some.injEq, forall_eq'] at f0 f1
  obtain ⟨y0, h0⟩ := f0
  obtain ⟨y1, h1⟩ := f1
  rw [cells_int] at h0
  rw [cells_span] at h1
  obtain ⟨a, e0, _⟩ := reads_int m _ _ h0
  obtain ⟨s, e1, _⟩ := reads_span m _ _ h1
  match cs, hl with
  | [x, y, z], _ =>
    simp [intEnc] at e0
    simp [spEnc] at e1
    obtain ⟨rfl, rfl⟩ := e1
    subst e0
    exact ⟨⟨a, s⟩, rfl, trivial⟩
section
variable {H : Type} {enc : TypeId × Value → H} {w : World} {base : Nat} {spare : Nat → Bool} {held : Bool} {v : Value} {d : DataW H} {p : List MemPlace} {r : Reach} {b0 : Nat}
theorem cap_of_trod {t e : TypeId} (ht : Try.prog.underlying t = some (.slice e)) (hv : Value.okWide Try.prog w r b0 t v) (h : DataW.Trod enc Try.prog w base spare held t v d p) : CapOk v := by
  obtain ⟨a, n, c, rfl⟩ := okWide_slice ht hv
  obtain ⟨fuel, hf⟩ := h
  intro a' n' c' e
  injection e with e1 e2 e3
  subst e1 e2 e3
  rcases Go.Deep.open_slice ht hf with ⟨hc, _⟩ | ⟨x, len, cap, m, k, D, Pl, hc, _, hl, hm, _⟩
  · simp [Value.cells] at hc
    obtain ⟨_, rfl, rfl⟩ := hc
    exact ⟨Nat.le_refl _, Nat.zero_le _⟩
  · simp [Value.cells] at hc
    obtain ⟨_, rfl, rfl⟩ := hc
    exact ⟨hl, hm⟩
theorem bns_of_trod (hv : Value.okWide Try.prog w r b0 85 v) (h : DataW.Trod enc Try.prog w base spare held 85 v d p) : ∃ l, Bns 0 w.heap.size w v l := by
  obtain ⟨a, n, c, rfl⟩ := okWide_slice Try.underlying85 hv
  obtain ⟨fuel, hf⟩ := h
  obtain ⟨v0, hs, e0, i0, _⟩ := sl_of_trod Try.underlying85 cells_burn (by omega) reads_burn hf
  simp [Value.cells] at e0
  subst e0
  exact ⟨hs, i0⟩
theorem sps_of_trod (hv : Value.okWide Try.prog w r b0 38 v) (h : DataW.Trod enc Try.prog w base spare held 38 v d p) : ∃ l, Sps 0 w.heap.size w v l := by
  obtain ⟨a, n, c, rfl⟩ := okWide_slice Try.underlying38 hv
  obtain ⟨fuel, hf⟩ := h
  obtain ⟨v0, hs, e0, i0, _⟩ := sl_of_trod Try.underlying38 cells_span (by omega) reads_span hf
  simp [Value.cells] at e0
  subst e0
  exact ⟨hs, i0⟩
end
theorem cap_of_own {α : Type} {enc : α → List Value} {e : TypeId} {sz base : Nat} {w : World} {v : Value} {l : List α} (h : Own enc e sz base w v l) : CapOk v := by
  intro a n c ev
  rcases h.2 with ⟨rfl, _⟩ | ⟨g, cap, cur, rfl, _, _, h1, h2, _⟩
  · injection ev with e1 e2 e3
    subst e2 e3
    exact ⟨Nat.le_refl _, Nat.zero_le _⟩
  · injection ev with e1 e2 e3
    subst e2 e3
    exact ⟨h1, h2⟩
end Go.Proofs.Ytfifldbinnkdmaa
