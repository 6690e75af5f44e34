/- Rows of truth values that lie behind a row of slices. -/
import Derived.Test.YtokelpmngahnoaaMkB
import Derived.Test.YtokelpmngahnoaaJK
set_option linter.unusedVariables false
set_option linter.unusedSimpArgs false
set_option linter.unnecessarySimpa false
namespace Go.Proofs.Ytokelpmngahnoaa
open Go.RowKit
set_option maxRecDepth 100000
/-- The rows, each one's own. -/
def rrws (base : Nat) (l : List (Value × List Bool)) : Res :=
  ⟨true, fun x => ∃ t ∈ l, t.1.ownBlock = some x, fun w => ∀ t ∈ l, Own boEnc 4 1 base w t.1 t.2, fun _ _ _ hg hr h t ht => Own.gb (h t ht) hg (fun k e e' => hr k e ⟨t, ht, e'⟩)⟩
/-- A slice in a row of slices. -/
def vEncS (v : Value) : List Value := [if sliceB v = true then v else .slice none 0 0]
theorem infoRB : (Try.prog.info? 56).map (fun i => (i.zero, i.size, i.bytes)) = some (some (.slice none 0 0), 1, 24) := by kernel_rfl
theorem okRB : ElemOk Try.prog 49 56 1 24 vEncS where
  under := Try.underlying49
  info := info5 infoRB rfl
  pos := by omega
  small := by omega
  len := fun _ => rfl
  one := fun x u hu => by
    simp [vEncS] at hu
    subst hu
    split
    · rename_i h
      cases x <;> first | rfl | cases h
    · rfl
section
variable {w0 A B : World} {L : List Res} {base : Nat}
theorem Bun.rws0 (h : Bun w0 L A) (base : Nat) : Bun w0 (rrws base [] :: L) A :=
  h.add (rrws base []) (gb_refl _ _) (fun t ht => by cases ht) (fun g ⟨t, ht, _⟩ => by cases ht)
/-- One row more. -/
theorem Bun.rws {l : List (Value × List Bool)} {v : Value} {a : List Bool} (h : Bun w0 (rown boEnc 4 1 base v a :: rrws base l :: L) A) : Bun w0 (rrws base (l ++ [(v, a)]) :: L) A := by
  have hd := h.dis
  rw [List.pairwise_cons, List.pairwise_cons] at hd
  have h1 : Own boEnc 4 1 base A v a := h.all _ (.head _)
  have h2 : ∀ t ∈ l, Own boEnc 4 1 base A t.1 t.2 := h.all _ (.tail _ (.head _))
  refine ⟨fun r hr => ?_, fun r hr g hx => ?_, ?_, h.gb⟩
  · rcases List.mem_cons.1 hr with rfl | hr
    · intro t' ht'
      rcases List.mem_append.1 ht' with h3 | h3
      · exact h2 t' h3
      · obtain rfl := List.mem_singleton.1 h3
        exact h1
    · exact h.all r (.tail _ (.tail _ hr))
  · rcases List.mem_cons.1 hr with rfl | hr
    · obtain ⟨t', ht', e⟩ := hx
      rcases List.mem_append.1 ht' with h3 | h3
      · exact h.bd _ (.tail _ (.head _)) g ⟨t', h3, e⟩
      · obtain rfl := List.mem_singleton.1 h3
        exact h.bd _ (.head _) g e
    · exact h.bd r (.tail _ (.tail _ hr)) g hx
  · rw [List.pairwise_cons]
    refine ⟨fun x hx hm g ⟨t', ht', e⟩ hg => ?_, hd.2.2⟩
    rcases List.mem_append.1 ht' with h3 | h3
    · exact hd.2.1 x hx (.inl rfl) g ⟨t', h3, e⟩ hg
    · obtain rfl := List.mem_singleton.1 h3
      exact hd.1 x (.tail _ hx) (.inl rfl) g e hg
end
end Go.Proofs.Ytokelpmngahnoaa
