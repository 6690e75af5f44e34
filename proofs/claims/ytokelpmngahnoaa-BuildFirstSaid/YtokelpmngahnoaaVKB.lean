/- build and its reference: hours by the reference. -/
import Derived.Test.YtokelpmngahnoaaVJ10
import Derived.Test.YtokelpmngahnoaaVW0
import Derived.Test.YtokelpmngahnoaaVK1
import Derived.OwnWalk
import Derived.Test.YtokelpmngahnoaaVJK
set_option linter.unusedVariables false
set_option linter.unusedSimpArgs false
set_option linter.unnecessarySimpa false
namespace Go.Proofs.Ytokelpmngahnoaa
open Go.RowKit
set_option maxRecDepth 100000
end Go.Proofs.Ytokelpmngahnoaa
/- make of a row of truth values. -/
namespace Go.Proofs.Ytokelpmngahnoaa
open Go.RowKit
set_option maxRecDepth 100000
end Go.Proofs.Ytokelpmngahnoaa
/- Rows of truth values that lie behind a row of slices. -/
namespace Go.Proofs.Ytokelpmngahnoaa
open Go.RowKit
set_option maxRecDepth 100000
section
variable {w0 A B : World} {L : List Res} {base : Nat}
end
end Go.Proofs.Ytokelpmngahnoaa
/- make of a row of numbers. -/
namespace Go.Proofs.Ytokelpmngahnoaa
open Go.RowKit
theorem flat_ints (l : List Int) : l.flatMap intEnc = l.map (fun z => Value.int .i64 z) := by
 induction l with
 | nil => rfl
 | cons z l ih => rw [List.flatMap_cons, ih]; rfl
theorem wpList_mkInt {ops : Array Oper} {rest : List Oper} {o : Oper} {a : Act} {Q : Exit -> Act -> World -> Prop} {w0 w : World} {L : List Res} (hgd : o.guard = none) (l c : Operand) (ho : o.op = .makeSlice 27 l c)
  (n : Nat) (hl : a.eval l = .int .i64 (n : Int)) (hc : a.eval c = .int .i64 (n : Int)) (hB : Bun w0 L w) (hn : n <= 100000) (g : Nat) (hg : w.heap.size = g)
  (h : ∀ w', Bun w0 (rown intEnc 3 1 w0.heap.size (.slice (some ⟨g, 0, none⟩) n n) (List.replicate n 0) :: L) w' -> w.heap.size <= w'.heap.size -> wpList Try.prog ops Q rest (a.put o.dst (.slice (some ⟨g, 0, none⟩) n n)) w') : wpList Try.prog ops Q (o :: rest) a w := by
 obtain ⟨i, z, h2, h3, h4, h5, h6⟩ := okInt.info
 subst hg
 have ez : z = .int .i64 0 := by
  have h7 : (Try.prog.info? 3).map (fun i => i.zero) = some (some (.int .i64 0)) := by kernel_rfl
  rw [h2] at h7
  simp only [Option.map_some, Option.some.injEq] at h7
  rw [h3] at h7
  exact Option.some.inj h7
 subst ez
 refine wpList_make_full w hgd l c 27 ho w0.heap.size 3 i (.int .i64 0) 1 Try.underlying27 h2 h3 h4 .i64 .i64 n n n hl hc rfl rfl (by rw [h5]; omega) (by unfold maxLen; omega) hB.gb.size fun w' hw hgb => ?_
 have e : (madeCells (Value.cells (.int .i64 0)) (n * 1)).toList = (List.replicate n (0 : Int)).flatMap intEnc := by
  rw [flat_ints]
  refine List.ext_getElem (by simp [madeCells]) fun j h1 h2 => ?_
  simp [madeCells, Value.cells, Nat.mod_one]
 rw [e] at hw
 have ho' : Own intEnc 3 1 w0.heap.size w' (.slice (some ⟨w.heap.size, 0, none⟩) n n) (List.replicate n 0) := by
  unfold Own
  rw [List.length_replicate]
  exact hw
 refine h w' (hB.add _ hgb ho' fun g hx => ?_) hgb.size
 have hx' : some w.heap.size = some g := hx
 injection hx' with hx'
 subst hx'
 exact ⟨Nat.le_refl _, (ho'.lt _ hx).2⟩
end Go.Proofs.Ytokelpmngahnoaa
/- make of a row, in a region that draws. -/
namespace Go.Proofs.Ytokelpmngahnoaa
open Go.RowKit
set_option maxRecDepth 100000
end Go.Proofs.Ytokelpmngahnoaa
