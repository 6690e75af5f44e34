/- Rows of truth values that lie behind a row of slices. -/
import Derived.Test.YtdgplekokdeafaaGreatPMkB
import Derived.Test.YtdgplekokdeafaaGreatPJK
import Derived.Test.YtdgplekokdeafaaGreatPG1
import Derived.Test.YtdgplekokdeafaaGreatPKA
import Derived.Test.YtdgplekokdeafaaGreatPKC
import Derived.Test.YtdgplekokdeafaaGreatPMixG
import Derived.Test.YtdgplekokdeafaaGreatPK1
import Derived.OwnWalk
set_option linter.unusedVariables false
set_option linter.unusedSimpArgs false
set_option linter.unnecessarySimpa false
namespace Go.Proofs.YtdgplekokdeafaaGreat
open Go.RowKit
set_option maxRecDepth 100000
def rrws (base : Nat) (l : List (Value × List Bool)) : Res :=
 ⟨true, fun x => ∃ t ∈ l, t.1.ownBlock = some x, fun w => ∀ t ∈ l, Own boEnc 4 1 base w t.1 t.2, fun _ _ _ hg hr h t ht => Own.gb (h t ht) hg (fun k e e' => hr k e ⟨t, ht, e'⟩)⟩
def vEncS (v : Value) : List Value := [if sliceB v = true then v else .slice none 0 0]
theorem infoRB : (Tryz.prog.info? 118).map (fun i => (i.zero, i.size, i.bytes)) = some (some (.slice none 0 0), 1, 24) := by kernel_rfl
theorem okRB : ElemOk Tryz.prog 58 118 1 24 vEncS where
 under := Tryz.underlying58
 info := info5 infoRB rfl
 pos := by omega
 small := by omega
 len := fun _ => rfl
 one := fun x u hu => by
  simp [vEncS] at hu
  subst hu
  split
  ·
   rename_i h
   cases x <;> first | rfl | cases h
  · rfl
section
variable {w0 A B : World} {L : List Res} {base : Nat}
theorem Bun.rws0 (h : Bun w0 L A) (base : Nat) : Bun w0 (rrws base [] :: L) A :=
 h.add (rrws base []) (gb_refl _ _) (fun t ht => by cases ht) (fun g ⟨t, ht, _⟩ => by cases ht)
theorem Bun.rws {l : List (Value × List Bool)} {v : Value} {a : List Bool} (h : Bun w0 (rown boEnc 4 1 base v a :: rrws base l :: L) A) : Bun w0 (rrws base (l ++ [(v, a)]) :: L) A := by
 have hd := h.dis
 rw [List.pairwise_cons, List.pairwise_cons] at hd
 have h1 : Own boEnc 4 1 base A v a := h.all _ (.head _)
 have h2 : ∀ t ∈ l, Own boEnc 4 1 base A t.1 t.2 := h.all _ (.tail _ (.head _))
 refine ⟨fun r hr => ?_, fun r hr g hx => ?_, ?_, h.gb⟩
 ·
  rcases List.mem_cons.1 hr with rfl | hr
  ·
   intro t' ht'
   rcases List.mem_append.1 ht' with h3 | h3
   · exact h2 t' h3
   obtain rfl := List.mem_singleton.1 h3
   exact h1
  · exact h.all r (.tail _ (.tail _ hr))
 ·
  rcases List.mem_cons.1 hr with rfl | hr
  ·
   obtain ⟨t', ht', e⟩ := hx
   rcases List.mem_append.1 ht' with h3 | h3
   · exact h.bd _ (.tail _ (.head _)) g ⟨t', h3, e⟩
   obtain rfl := List.mem_singleton.1 h3
   exact h.bd _ (.head _) g e
  · exact h.bd r (.tail _ (.tail _ hr)) g hx
 rw [List.pairwise_cons]
 refine ⟨fun x hx hm g ⟨t', ht', e⟩ hg => ?_, hd.2.2⟩
 rcases List.mem_append.1 ht' with h3 | h3
 · exact hd.2.1 x hx (.inl rfl) g ⟨t', h3, e⟩ hg
 obtain rfl := List.mem_singleton.1 h3
 exact hd.1 x (.tail _ hx) (.inl rfl) g e hg
end
attribute [local go_sem] Oper.semAt_some
structure CsIs (c : Cs) (ms : List Mch) (ts : List Tsk) (lh lw lf : List Int) (rows : List (List Bool)) : Prop where
 ho : lh = (List.range ts.length).map c.ho
 wa : lw = (List.range ts.length).map c.wa
 fr : lf = (List.range ts.length).map c.fr
 m : ∀ i, c.m i = (tk ts i).m
 af : ∀ i, c.af i = (tk ts i).af
 sh : ∀ m, c.sh m = (mc ms m.toNat).shift
 rn : rows.length = ms.length
 rl : ∀ (k : Nat) (r : List Bool), rows[k]? = some r -> r.length = c.nd /\ ∀ d, d < c.nd -> r.getD d false = c.wk (k : Int) d
end Go.Proofs.YtdgplekokdeafaaGreat
/- make of a row of numbers. -/
namespace Go.Proofs.YtdgplekokdeafaaGreat
open Go.RowKit
theorem flat_ints (l : List Int) : l.flatMap intEnc = l.map (fun z => Value.int .i64 z) := by
 induction l with
 | nil => rfl
 | cons z l ih => rw [List.flatMap_cons, ih]; rfl
theorem wpList_mkInt {ops : Array Oper} {rest : List Oper} {o : Oper} {a : Act} {Q : Exit -> Act -> World -> Prop} {w0 w : World} {L : List Res} (hgd : o.guard = none) (l c : Operand) (ho : o.op = .makeSlice 22 l c)
  (n : Nat) (hl : a.eval l = .int .i64 (n : Int)) (hc : a.eval c = .int .i64 (n : Int)) (hB : Bun w0 L w) (hn : n <= 100000) (g : Nat) (hg : w.heap.size = g)
  (h : ∀ w', Bun w0 (rown intEnc 3 1 w0.heap.size (.slice (some ⟨g, 0, none⟩) n n) (List.replicate n 0) :: L) w' -> w.heap.size <= w'.heap.size -> wpList Tryz.prog ops Q rest (a.put o.dst (.slice (some ⟨g, 0, none⟩) n n)) w') : wpList Tryz.prog ops Q (o :: rest) a w := by
 obtain ⟨i, z, h2, h3, h4, h5, h6⟩ := okInt.info
 subst hg
 have ez : z = .int .i64 0 := by
  have h7 : (Tryz.prog.info? 3).map (fun i => i.zero) = some (some (.int .i64 0)) := by kernel_rfl
  rw [h2] at h7
  simp only [Option.map_some, Option.some.injEq] at h7
  rw [h3] at h7
  exact Option.some.inj h7
 subst ez
 refine wpList_make_full w hgd l c 22 ho w0.heap.size 3 i (.int .i64 0) 1 Tryz.underlying22 h2 h3 h4 .i64 .i64 n n n hl hc rfl rfl (by rw [h5]; omega) (by unfold maxLen; omega) hB.gb.size fun w' hw hgb => ?_
 have e : (madeCells (Value.cells (.int .i64 0)) (n * 1)).toList = (List.replicate n (0 : Int)).flatMap intEnc := by
  rw [flat_ints]
  refine List.ext_getElem (by simp [madeCells]) fun j h1 h2 => ?_
  simp [madeCells, Value.cells, Nat.mod_one]
 rw [e] at hw
 have ho' : Own intEnc 3 1 w0.heap.size w' (.slice (some ⟨w.heap.size, 0, none⟩) n n) (List.replicate n 0) := by
  unfold Own
  rw [List.length_replicate]
  exact hw
 refine h w' (hB.add _ hgb ho' fun g hx => ?_) hgb.size
 have hx' : some w.heap.size = some g := hx
 injection hx' with hx'
 subst hx'
 exact ⟨Nat.le_refl _, (ho'.lt _ hx).2⟩
end Go.Proofs.YtdgplekokdeafaaGreat
