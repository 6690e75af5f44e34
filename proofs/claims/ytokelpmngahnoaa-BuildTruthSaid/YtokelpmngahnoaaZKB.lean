/- build and its reference: hours by the reference. -/
import Derived.Test.YtokelpmngahnoaaZJ10
import Derived.Test.YtokelpmngahnoaaZW0
import Derived.Test.YtokelpmngahnoaaZK1
import Derived.OwnWalk
import Derived.Test.YtokelpmngahnoaaZJK
set_option linter.unusedVariables false
set_option linter.unusedSimpArgs false
set_option linter.unnecessarySimpa false
namespace Go.Proofs.Ytokelpmngahnoaa
open Go.RowKit
set_option maxRecDepth 100000
def boEnc (b : Bool) : List Value := [.bool b]
end Go.Proofs.Ytokelpmngahnoaa
/- make of a row of truth values. -/
namespace Go.Proofs.Ytokelpmngahnoaa
open Go.RowKit

set_option maxRecDepth 100000
theorem infoBo : (Try.prog.info? 4).map (fun i => (i.zero, i.size, i.bytes)) = some (some (.bool false), 1, 1) := by kernel_rfl
theorem okBo : ElemOk Try.prog 56 4 1 1 boEnc where
  under := Try.underlying56
  info := info5 infoBo rfl
  pos := by omega
  small := by omega
  len := fun _ => rfl
  one := fun x u hu => by
    simp [boEnc] at hu
    subst hu
    rfl
theorem flat_bools (l : List Bool) : l.flatMap boEnc = l.map (fun z => Value.bool z) := by
  induction l with
  | nil => rfl
  | cons z l ih => rw [List.flatMap_cons, ih]; rfl
theorem wpList_mkBool {ops : Array Oper} {rest : List Oper} {o : Oper} {a : Act} {Q : Exit → Act → World → Prop} {w0 w : World} {L : List Res} (hgd : o.guard = none) (l c : Operand) (ho : o.op = .makeSlice 56 l c)
    (n : Nat) (hl : a.eval l = .int .i64 (n : Int)) (hc : a.eval c = .int .i64 (n : Int)) (hB : Bun w0 L w) (hn : n ≤ 100000) (g : Nat) (hg : w.heap.size = g)
    (h : ∀ w', Bun w0 (rown boEnc 4 1 w0.heap.size (.slice (some ⟨g, 0, none⟩) n n) (List.replicate n false) :: L) w' → w.heap.size ≤ w'.heap.size → wpList Try.prog ops Q rest (a.put o.dst (.slice (some ⟨g, 0, none⟩) n n)) w') : wpList Try.prog ops Q (o :: rest) a w := by
  obtain ⟨i, z, h2, h3, h4, h5, h6⟩ := okBo.info
  subst hg
  have ez : z = .bool false := by
    have h7 : (Try.prog.info? 4).map (fun i => i.zero) = some (some (.bool false)) := by kernel_rfl
    rw [h2] at h7
    simp only [Option.map_some, Option.some.injEq] at h7
    rw [h3] at h7
    exact Option.some.inj h7
  subst ez
  refine wpList_make_full w hgd l c 56 ho w0.heap.size 4 i (.bool false) 1 Try.underlying56 h2 h3 h4 .i64 .i64 n n n hl hc rfl rfl (by rw [h5]; omega) (by unfold maxLen; omega) hB.gb.size fun w' hw hgb => ?_
  have e : (madeCells (Value.cells (.bool false)) (n * 1)).toList = (List.replicate n false).flatMap boEnc := by
    rw [flat_bools]
    refine List.ext_getElem (by simp [madeCells]) fun j h1 h2 => ?_
    simp [madeCells, Value.cells, Nat.mod_one]
  rw [e] at hw
  have ho' : Own boEnc 4 1 w0.heap.size w' (.slice (some ⟨w.heap.size, 0, none⟩) n n) (List.replicate n false) := by
    unfold Own
    rw [List.length_replicate]
    exact hw
  refine h w' (hB.add _ hgb ho' fun g hx => ?_) hgb.size
  have hx' : some w.heap.size = some g := hx
  injection hx' with hx'
  subst hx'
  exact ⟨Nat.le_refl _, (ho'.lt _ hx).2⟩
end Go.Proofs.Ytokelpmngahnoaa
/- Rows of truth values that lie behind a row of slices. -/
namespace Go.Proofs.Ytokelpmngahnoaa
open Go.RowKit
set_option maxRecDepth 100000
/-- The rows, each one's own. -/
def rrws (base : Nat) (l : List (Value × List Bool)) : Res :=
  ⟨true, fun x => ∃ t ∈ l, t.1.ownBlock = some x, fun w => ∀ t ∈ l, Own boEnc 4 1 base w t.1 t.2, fun _ _ _ hg hr h t ht => Own.gb (h t ht) hg (fun k e e' => hr k e ⟨t, ht, e'⟩)⟩
/-- A slice in a row of slices. -/
def vEncS (v : Value) : List Value := [if sliceB v = true then v else .slice none 0 0]
theorem infoRB : (Try.prog.info? 56).map (fun i => (i.zero, i.size, i.bytes)) = some (some (.slice none 0 0), 1, 24) := by kernel_rfl
theorem okRB : ElemOk Try.prog 49 56 1 24 vEncS where
  under := Try.underlying49
  info := info5 infoRB rfl
  pos := by omega
  small := by omega
  len := fun _ => rfl
  one := fun x u hu => by
    simp [vEncS] at hu
    subst hu
    split
    · rename_i h
      cases x <;> first | rfl | cases h
    · rfl
section
variable {w0 A B : World} {L : List Res} {base : Nat}
theorem Bun.rws0 (h : Bun w0 L A) (base : Nat) : Bun w0 (rrws base [] :: L) A :=
  h.add (rrws base []) (gb_refl _ _) (fun t ht => by cases ht) (fun g ⟨t, ht, _⟩ => by cases ht)
/-- One row more. -/
theorem Bun.rws {l : List (Value × List Bool)} {v : Value} {a : List Bool} (h : Bun w0 (rown boEnc 4 1 base v a :: rrws base l :: L) A) : Bun w0 (rrws base (l ++ [(v, a)]) :: L) A := by
  have hd := h.dis
  rw [List.pairwise_cons, List.pairwise_cons] at hd
  have h1 : Own boEnc 4 1 base A v a := h.all _ (.head _)
  have h2 : ∀ t ∈ l, Own boEnc 4 1 base A t.1 t.2 := h.all _ (.tail _ (.head _))
  refine ⟨fun r hr => ?_, fun r hr g hx => ?_, ?_, h.gb⟩
  · rcases List.mem_cons.1 hr with rfl | hr
    · intro t' ht'
      rcases List.mem_append.1 ht' with h3 | h3
      · exact h2 t' h3
      · obtain rfl := List.mem_singleton.1 h3
        exact h1
    · exact h.all r (.tail _ (.tail _ hr))
  · rcases List.mem_cons.1 hr with rfl | hr
    · obtain ⟨t', ht', e⟩ := hx
      rcases List.mem_append.1 ht' with h3 | h3
      · exact h.bd _ (.tail _ (.head _)) g ⟨t', h3, e⟩
      · obtain rfl := List.mem_singleton.1 h3
        exact h.bd _ (.head _) g e
    · exact h.bd r (.tail _ (.tail _ hr)) g hx
  · rw [List.pairwise_cons]
    refine ⟨fun x hx hm g ⟨t', ht', e⟩ hg => ?_, hd.2.2⟩
    rcases List.mem_append.1 ht' with h3 | h3
    · exact hd.2.1 x hx (.inl rfl) g ⟨t', h3, e⟩ hg
    · obtain rfl := List.mem_singleton.1 h3
      exact hd.1 x (.tail _ hx) (.inl rfl) g e hg
end
end Go.Proofs.Ytokelpmngahnoaa
/- make of a row of numbers. -/
namespace Go.Proofs.Ytokelpmngahnoaa
open Go.RowKit

end Go.Proofs.Ytokelpmngahnoaa
/- make of a row, in a region that draws. -/
namespace Go.Proofs.Ytokelpmngahnoaa
open Go.RowKit

set_option maxRecDepth 100000
theorem step_mkBool {ops : Array Oper} {o : Oper} {a : Act} {K : Act → World → Prop} {Q : Exit → Act → World → Prop} {E : Prop} {w0 w : World} {L : List Res} (hgd : o.guard = none) (l c : Operand) (ho : o.op = .makeSlice 56 l c)
    (n : Nat) (hl : a.eval l = .int .i64 (n : Int)) (hc : a.eval c = .int .i64 (n : Int)) (hB : Bun w0 L w) (hn : n ≤ 100000)
    (h : ∀ g w', Bun w0 (rown boEnc 4 1 w0.heap.size (.slice (some ⟨g, 0, none⟩) n n) (List.replicate n false) :: L) w' → w.heap.size ≤ w'.heap.size → K (a.put o.dst (.slice (some ⟨g, 0, none⟩) n n)) w') :
    if Region.wanted o (yielded ops a.tmps) = true then Oper.wp Try.prog o a w K Q else E := by
  have hw : Region.wanted o (yielded ops a.tmps) = true := by simp [Region.wanted, hgd]
  rw [if_pos hw]
  obtain ⟨i, z, h2, h3, h4, h5, h6⟩ := okBo.info
  have ez : z = .bool false := by
    have h7 : (Try.prog.info? 4).map (fun i => i.zero) = some (some (.bool false)) := by kernel_rfl
    rw [h2] at h7
    simp only [Option.map_some, Option.some.injEq] at h7
    rw [h3] at h7
    exact Option.some.inj h7
  subst ez
  obtain ⟨w', hrun, hw', hgb⟩ := run_make_full (P := Try.prog) w w0.heap.size 56 4 i (.bool false) 1 Try.underlying56 h2 h3 h4 .i64 .i64 n (by rw [h5]; omega) (by unfold maxLen; omega) hB.gb.size
  have e : (madeCells (Value.cells (.bool false)) (n * 1)).toList = (List.replicate n false).flatMap boEnc := by
    rw [flat_bools]
    refine List.ext_getElem (by simp [madeCells]) fun j h1 h2 => ?_
    simp [madeCells, Value.cells, Nat.mod_one]
  rw [e] at hw'
  have ho' : Own boEnc 4 1 w0.heap.size w' (.slice (some ⟨w.heap.size, 0, none⟩) n n) (List.replicate n false) := by
    unfold Own
    rw [List.length_replicate]
    exact hw'
  unfold Oper.wp
  simp [execOp, ho, hl, hc, hrun, Result.andThen]
  refine h w.heap.size w' (hB.add _ hgb ho' fun g hx => ?_) hgb.size
  have hx' : some w.heap.size = some g := hx
  injection hx' with hx'
  subst hx'
  exact ⟨Nat.le_refl _, (ho'.lt _ hx).2⟩
end Go.Proofs.Ytokelpmngahnoaa
