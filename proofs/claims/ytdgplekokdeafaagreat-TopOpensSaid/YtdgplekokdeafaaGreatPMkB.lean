/- make of a row of truth values. -/
import Derived.Test.YtdgplekokdeafaaGreatPG1
import Derived.Test.YtdgplekokdeafaaGreatPK1
import Derived.OwnWalk
set_option linter.unusedVariables false
set_option linter.unusedSimpArgs false
set_option linter.unnecessarySimpa false
namespace Go.Proofs.YtdgplekokdeafaaGreat
open Go.RowKit
set_option maxRecDepth 100000
theorem infoBo : (Tryz.prog.info? 4).map (fun i => (i.zero, i.size, i.bytes)) = some (some (.bool false), 1, 1) := by kernel_rfl
theorem okBo : ElemOk Tryz.prog 118 4 1 1 boEnc where
 under := Tryz.underlying118
 info := info5 infoBo rfl
 pos := by omega
 small := by omega
 len := fun _ => rfl
 one := fun x u hu => by
  simp [boEnc] at hu
  subst hu
  rfl
theorem flat_bools (l : List Bool) : l.flatMap boEnc = l.map (fun z => Value.bool z) := by
 induction l with
 | nil => rfl
 | cons z l ih => rw [List.flatMap_cons, ih]; rfl
theorem wpList_mkBool {ops : Array Oper} {rest : List Oper} {o : Oper} {a : Act} {Q : Exit -> Act -> World -> Prop} {w0 w : World} {L : List Res} (hgd : o.guard = none) (l c : Operand) (ho : o.op = .makeSlice 118 l c)
  (n : Nat) (hl : a.eval l = .int .i64 (n : Int)) (hc : a.eval c = .int .i64 (n : Int)) (hB : Bun w0 L w) (hn : n <= 100000) (g : Nat) (hg : w.heap.size = g)
  (h : ∀ w', Bun w0 (rown boEnc 4 1 w0.heap.size (.slice (some ⟨g, 0, none⟩) n n) (List.replicate n false) :: L) w' -> w.heap.size <= w'.heap.size -> wpList Tryz.prog ops Q rest (a.put o.dst (.slice (some ⟨g, 0, none⟩) n n)) w') : wpList Tryz.prog ops Q (o :: rest) a w := by
 obtain ⟨i, z, h2, h3, h4, h5, h6⟩ := okBo.info
 subst hg
 have ez : z = .bool false := by
  have h7 : (Tryz.prog.info? 4).map (fun i => i.zero) = some (some (.bool false)) := by kernel_rfl
  rw [h2] at h7
  simp only [Option.map_some, Option.some.injEq] at h7
  rw [h3] at h7
  exact Option.some.inj h7
 subst ez
 refine wpList_make_full w hgd l c 118 ho w0.heap.size 4 i (.bool false) 1 Tryz.underlying118 h2 h3 h4 .i64 .i64 n n n hl hc rfl rfl (by rw [h5]; omega) (by unfold maxLen; omega) hB.gb.size fun w' hw hgb => ?_
 have e : (madeCells (Value.cells (.bool false)) (n * 1)).toList = (List.replicate n false).flatMap boEnc := by
  rw [flat_bools]
  refine List.ext_getElem (by simp [madeCells]) fun j h1 h2 => ?_
  simp [madeCells, Value.cells, Nat.mod_one]
 rw [e] at hw
 have ho' : Own boEnc 4 1 w0.heap.size w' (.slice (some ⟨w.heap.size, 0, none⟩) n n) (List.replicate n false) := by
  unfold Own
  rw [List.length_replicate]
  exact hw
 refine h w' (hB.add _ hgb ho' fun g hx => ?_) hgb.size
 have hx' : some w.heap.size = some g := hx
 injection hx' with hx'
 subst hx'
 exact ⟨Nat.le_refl _, (ho'.lt _ hx).2⟩
end Go.Proofs.YtdgplekokdeafaaGreat
