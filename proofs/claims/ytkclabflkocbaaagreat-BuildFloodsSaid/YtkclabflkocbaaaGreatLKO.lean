/- The arguments of a statement, opened: lists of numbers, spans. -/
import Derived.Test.YtkclabflkocbaaaGreatLK1
import Derived.ProofKit
import Derived.OpenShut
import Derived.ShutString
import Derived.ChangeOld
import Derived.Below
import Derived.Deep.Slices
import Derived.Test.YtkclabflkocbaaaGreatLKF1
import Derived.Test.YtkclabflkocbaaaGreatLF29
set_option linter.unusedVariables false
set_option linter.unusedSimpArgs false
set_option linter.unnecessarySimpa false
namespace Go.Proofs.YtkclabflkocbaaaGreat
open Go.ChangeShapes Go.WideShapes Go.ChangeAt Go.RowKit
set_option maxRecDepth 100000
section
variable {H : Type} {enc : TypeId × Value -> H} {P : Program} {w : World} {base : Nat} {spare : Nat -> Bool} {held : Bool}
theorem trod_fields {t : TypeId} {fs : Array Field} {fuel : Nat} {cs : List Value} {x : DataW H × List MemPlace} (ht : P.underlying t = some (.struct fs)) (h : DataW.trod enc P w base spare held fuel t cs = some x) :
  cs.length = P.cellsOf t /\ ∃ n, ∀ (i : Nat) (f : Field), fs[i]? = some f -> ∃ y, DataW.trod enc P w base spare held n f.type ((cs.drop f.offset).take (P.cellsOf f.type)) = some y := by
 cases fuel with
 | zero => simp [DataW.trod] at h
 | succ n =>
  unfold DataW.trod at h
  rw [ht] at h
  simp only at h
  by_cases hl : cs.length = P.cellsOf t
  ·
   refine ⟨hl, n, fun i f hf => ?_⟩
   rw [if_pos hl] at h
   cases hm : fs.toList.mapM (fun f => DataW.trod enc P w base spare held n f.type ((cs.drop f.offset).take (P.cellsOf f.type))) with
   | none => rw [hm] at h; cases h
   | some ys =>
    have key : ∀ (l : List Field) (ys : List (DataW H × List MemPlace)), l.mapM (fun f => DataW.trod enc P w base spare held n f.type ((cs.drop f.offset).take (P.cellsOf f.type))) = some ys -> ∀ f ∈ l, ∃ y, DataW.trod enc P w base spare held n f.type ((cs.drop f.offset).take (P.cellsOf f.type)) = some y := by
     intro l
     induction l with
     | nil => intro _ _ f hf; cases hf
     | cons g l ih =>
      intro ys hm f hf
      rw [List.mapM_cons] at hm
      cases hg : DataW.trod enc P w base spare held n g.type ((cs.drop g.offset).take (P.cellsOf g.type)) with
      | none => rw [hg] at hm; cases hm
      | some y =>
       rcases List.mem_cons.1 hf with rfl | hf
       · exact ⟨y, hg⟩
       rw [hg] at hm
       cases hl2 : l.mapM (fun f => DataW.trod enc P w base spare held n f.type ((cs.drop f.offset).take (P.cellsOf f.type))) with
       | none => rw [hl2] at hm; cases hm
       | some zs => exact ih zs hl2 f hf
    exact key _ _ hm f (by simpa using Array.mem_of_getElem? hf)
  rw [if_neg hl] at h
  cases h
def Reads {α : Type} (P : Program) (t : TypeId) (en : α -> List Value) (ok : α -> Prop) : Prop :=
 ∀ {H : Type} {enc : TypeId × Value -> H} {w : World} {base : Nat} {spare : Nat -> Bool} {held : Bool} (n : Nat) (cs : List Value) (y : DataW H × List MemPlace), DataW.trod enc P w base spare held n t cs = some y -> ∃ x : α, cs = en x /\ ok x
theorem sl_of_trod {α : Type} {en : α -> List Value} {ok : α -> Prop} {t e : TypeId} {sz : Nat} (ht : P.underlying t = some (.slice e)) (hc : P.cellsOf e = sz) (hsz : 0 < sz) (hr : Reads P e en ok)
  {fuel : Nat} {cs : List Value} {y : DataW H × List MemPlace} (h : DataW.trod enc P w base spare held fuel t cs = some y) : ∃ v l, cs = [v] /\ Sl en sz 0 w.heap.size w v l /\ ∀ x ∈ l, ok x := by
 rcases Go.Deep.open_slice ht h with ⟨rfl, _⟩ | ⟨a, len, cap, m, n, D, Pl, rfl, _, hl, hm, hmm, _, hel⟩
 · exact ⟨_, [], rfl, Sl.of_nil _ _, fun x hx => by cases hx⟩
 have hle : len <= m := by rw [hmm]; split <;> omega
 have hx : ∀ i, i < len -> ∃ x : α, (∀ j u, (en x)[j]? = some u -> w.cell? ((a.add (i * sz)).add j) = some u) /\ ok x /\ (a.add (i * sz)).block < w.heap.size /\ (en x).length = sz := fun i hi => by
  obtain ⟨cs', h1, h2⟩ := hel i (by omega)
  rw [hc] at h1
  obtain ⟨x, rfl, hok⟩ := hr n cs' _ h2
  have hlt := World.cells?_block h1 hsz
  unfold World.cells? at h1
  split at h1
  ·
   have key : ∀ (l : List Nat) (ys : List Value), l.mapM (fun i_1 => w.cell? ((a.add (i * sz)).add i_1)) = some ys -> ys.length = l.length /\ ∀ (j : Nat) u, ys[j]? = some u -> ∃ k : Nat, l[j]? = some k /\ w.cell? ((a.add (i * sz)).add k) = some u := by
    intro l
    induction l with
    | nil => intro ys hy; simp at hy; subst hy; exact ⟨rfl, fun j u h => by simp at h⟩
    | cons k l ih =>
     intro ys hy
     rw [List.mapM_cons] at hy
     cases hk : w.cell? ((a.add (i * sz)).add k) with
     | none => rw [hk] at hy; cases hy
     | some v =>
      rw [hk] at hy
      cases hl2 : l.mapM (fun i_1 => w.cell? ((a.add (i * sz)).add i_1)) with
      | none => rw [hl2] at hy; cases hy
      | some zs =>
       rw [hl2] at hy
       cases hy
       obtain ⟨i1, i2⟩ := ih zs hl2
       refine ⟨by simp [i1], fun j u hj => ?_⟩
       cases j with
       | zero => cases hj; exact ⟨k, rfl, hk⟩
       | succ j => exact i2 j u hj
   obtain ⟨k1, k2⟩ := key _ _ h1
   refine ⟨x, fun j u hj => ?_, hok, hlt, by simpa using k1⟩
   obtain ⟨k, e1, e2⟩ := k2 j u hj
   have : k = j := by
    have := List.getElem?_eq_some_iff.1 e1
    obtain ⟨q, q'⟩ := this
    simp at q'
    omega
   subst this
   exact e2
  · cases h1
 let f : Nat -> Option α := fun i => if h : i < len then some (Classical.choose (hx i h)) else none
 by_cases h0 : len = 0
 ·
  subst h0
  exact ⟨_, [], rfl, Sl.of_nil _ _, fun x hx => by cases hx⟩
 have hx0 := hx 0 (by omega)
 refine ⟨_, (List.range len).attach.map fun i => Classical.choose (hx i.1 (List.mem_range.1 i.2)), rfl, ⟨by simp; omega, some a, cap, by simp, .inr ⟨a.block, a.off, ?_, Nat.zero_le _, ?_, ?_⟩⟩, fun x hxm => ?_⟩
 ·
  obtain ⟨x, q1, _, _, q4⟩ := hx0
  have q := q1 0 ((en x)[0]'(by omega)) (List.getElem?_eq_getElem (by omega))
  simp only [Nat.zero_mul, Addr.add, if_true] at q
  obtain ⟨b, o, s⟩ := a
  have : s = none := by
   cases s with
   | none => rfl
   | some k => simp [World.cell?] at q; split at q <;> simp_all
  subst this
  rfl
 ·
  obtain ⟨x, _, _, q3, _⟩ := hx0
  simpa [Addr.add] using q3
 ·
  intro i x hi j u hj
  obtain ⟨hi', e⟩ := List.getElem?_eq_some_iff.1 hi
  simp only [List.length_map, List.length_attach, List.length_range] at hi'
  simp only [List.getElem_map, List.getElem_attach, List.getElem_range] at e
  have hs := Classical.choose_spec (hx i hi')
  rw [e] at hs
  have q := hs.1 j u hj
  have hsp : a.spot = none := by
   obtain ⟨x', q1, _, _, q4⟩ := hx0
   have q := q1 0 ((en x')[0]'(by omega)) (List.getElem?_eq_getElem (by omega))
   simp only [Nat.zero_mul, Addr.add, if_true] at q
   obtain ⟨b, o, s⟩ := a
   cases s with
   | none => rfl
   | some k => simp [World.cell?] at q; split at q <;> simp_all
  have hadd : (a.add (i * sz)).add j = ⟨a.block, a.off + i * sz + j, none⟩ := by
   obtain ⟨b, o, s⟩ := a
   simp only at hsp
   subst hsp
   unfold Addr.add
   by_cases h1 : i * sz = 0 <;> by_cases h2 : j = 0 <;> simp [h1, h2]
  rw [hadd] at q
  exact q
 obtain ⟨i, hi, rfl⟩ := List.mem_map.1 hxm
 exact (Classical.choose_spec (hx i.1 (List.mem_range.1 i.2))).2.1
theorem agg_of_trod {α : Type} {en : α -> List Value} {ok : α -> Prop} {t : TypeId} {fs : Array Field} (ht : P.underlying t = some (.struct fs)) (hr : Reads P t en ok) {v : Value} {d : DataW H} {p : List MemPlace} {r : Reach} {b0 : Nat}
  (hv : Value.okWide P w r b0 t v) (h : DataW.Trod enc P w base spare held t v d p) : ∃ x : α, v = .agg (en x).toArray /\ ok x := by
 obtain ⟨cs, rfl, _⟩ := okWide_struct ht hv
 obtain ⟨fuel, hf⟩ := h
 obtain ⟨x, hx, hok⟩ := hr fuel _ _ hf
 exact ⟨x, by rw [← hx]; simp [Value.cells], hok⟩
end
theorem reads_int : Reads Tryz.prog 3 intEnc (fun z => (Lit.int .i64 z).wf = true) := fun n cs y h => by
 obtain ⟨z, e, _, hz⟩ := DataW.trod_int Tryz.underlying3 h
 exact ⟨z, e, hz⟩
theorem cells_int : Tryz.prog.cellsOf 3 = 1 := by kernel_rfl
theorem cells_span : Tryz.prog.cellsOf 24 = 2 := by kernel_rfl
theorem reads_span : Reads Tryz.prog 24 spEnc (fun _ => True) := fun n cs y h => by
 obtain ⟨hl, m, hf⟩ := trod_fields Tryz.underlying24 h
 rw [cells_span] at hl
 have f0 := hf 0
 have f1 := hf 1
 simp only [List.getElem?_toArray, List.getElem?_cons_zero, List.getElem?_cons_succ, Option.some.injEq, forall_eq'] at f0 f1
 obtain ⟨y0, h0⟩ := f0
 obtain ⟨y1, h1⟩ := f1
 rw [cells_int] at h0 h1
 obtain ⟨a, e0, _⟩ := reads_int m _ _ h0
 obtain ⟨b, e1, _⟩ := reads_int m _ _ h1
 match cs, hl with
 | [x, y], _ =>
  simp [intEnc] at e0 e1
  subst e0 e1
  exact ⟨⟨a, b⟩, rfl, trivial⟩
theorem ints_of_trod {H : Type} {enc : TypeId × Value -> H} {w : World} {base : Nat} {spare : Nat -> Bool} {held : Bool} {v : Value} {d : DataW H} {p : List MemPlace} {r : Reach} {b0 : Nat}
  (hv : Value.okWide Tryz.prog w r b0 30 v) (h : DataW.Trod enc Tryz.prog w base spare held 30 v d p) : ∃ l, Ints 0 w.heap.size w v l := by
 obtain ⟨a, n, c, rfl⟩ := okWide_slice Tryz.underlying30 hv
 obtain ⟨fuel, hf⟩ := h
 obtain ⟨v0, hs, e0, i0, _⟩ := sl_of_trod Tryz.underlying30 cells_int (by omega) reads_int hf
 simp [Value.cells] at e0
 subst e0
 exact ⟨hs, i0⟩
theorem own_ : ownKnob Tryz.prog.godebug = none := by kernel_rfl
theorem laidOut_ : laidOutB Tryz.prog = true := by kernel_rfl
theorem cells_ice : Tryz.prog.cellsOf 28 = 8 := by kernel_rfl
theorem reads_ice : Reads Tryz.prog 28 iceEnc (fun _ => True) := fun n cs y h => by
 obtain ⟨hl, m, hf⟩ := trod_fields Tryz.underlying28 h
 rw [cells_ice] at hl
 have f0 := hf 0
 have f1 := hf 1
 have f2 := hf 2
 have f3 := hf 3
 simp only [List.getElem?_toArray, List.getElem?_cons_zero, List.getElem?_cons_succ, Option.some.injEq, forall_eq'] at f0 f1 f2 f3
 obtain ⟨y0, h0⟩ := f0
 obtain ⟨y1, h1⟩ := f1
 obtain ⟨y2, h2⟩ := f2
 obtain ⟨y3, h3⟩ := f3
 rw [cells_span] at h0 h1 h2 h3
 obtain ⟨a, e0, _⟩ := reads_span m _ _ h0
 obtain ⟨b, e1, _⟩ := reads_span m _ _ h1
 obtain ⟨c, e2, _⟩ := reads_span m _ _ h2
 obtain ⟨d, e3, _⟩ := reads_span m _ _ h3
 match cs, hl with
 | [x0, x1, x2, x3, x4, x5, x6, x7], _ =>
  simp [spEnc] at e0 e1 e2 e3
  obtain ⟨rfl, rfl⟩ := e0
  obtain ⟨rfl, rfl⟩ := e1
  obtain ⟨rfl, rfl⟩ := e2
  obtain ⟨rfl, rfl⟩ := e3
  exact ⟨⟨a, b, c, d⟩, rfl, trivial⟩
theorem ice_of_trod {H : Type} {enc : TypeId × Value -> H} {w : World} {base : Nat} {spare : Nat -> Bool} {held : Bool} {v : Value} {d : DataW H} {p : List MemPlace} {r : Reach} {b0 : Nat}
  (hv : Value.okWide Tryz.prog w r b0 28 v) (h : DataW.Trod enc Tryz.prog w base spare held 28 v d p) : ∃ x : Ice, v = .agg (iceC x) := by
 obtain ⟨x, e, _⟩ := agg_of_trod Tryz.underlying28 reads_ice hv h
 exact ⟨x, e⟩
theorem cells_cover : Tryz.prog.cellsOf 75 = 3 := by kernel_rfl
theorem cells_weather : Tryz.prog.cellsOf 77 = 6 := by kernel_rfl
theorem cells_frost : Tryz.prog.cellsOf 26 = 8 := by kernel_rfl
theorem cells_bool : Tryz.prog.cellsOf 4 = 1 := by kernel_rfl
theorem cells_covers : Tryz.prog.cellsOf 22 = 1 := by kernel_rfl
theorem reads_cover : Reads Tryz.prog 75 covEnc (fun _ => True) := fun n cs y h => by
 obtain ⟨hl, m, hf⟩ := trod_fields Tryz.underlying75 h
 rw [cells_cover] at hl
 have f0 := hf 0
 have f1 := hf 1
 simp only [List.getElem?_toArray, List.getElem?_cons_zero, List.getElem?_cons_succ, Option.some.injEq, forall_eq'] at f0 f1
 obtain ⟨y0, h0⟩ := f0
 obtain ⟨y1, h1⟩ := f1
 rw [cells_int] at h0
 rw [cells_span] at h1
 obtain ⟨a, e0, _⟩ := reads_int m _ _ h0
 obtain ⟨b, e1, _⟩ := reads_span m _ _ h1
 match cs, hl with
 | [x0, x1, x2], _ =>
  simp [intEnc, spEnc] at e0 e1
  subst e0
  obtain ⟨rfl, rfl⟩ := e1
  exact ⟨⟨a, b⟩, rfl, trivial⟩
theorem reads_weather : Reads Tryz.prog 77 weaEnc (fun _ => True) := fun n cs y h => by
 obtain ⟨hl, m, hf⟩ := trod_fields Tryz.underlying77 h
 rw [cells_weather] at hl
 have f0 := hf 0
 have f1 := hf 1
 have f2 := hf 2
 have f3 := hf 3
 simp only [List.getElem?_toArray, List.getElem?_cons_zero, List.getElem?_cons_succ, Option.some.injEq, forall_eq'] at f0 f1 f2 f3
 obtain ⟨y0, h0⟩ := f0
 obtain ⟨y1, h1⟩ := f1
 obtain ⟨y2, h2⟩ := f2
 obtain ⟨y3, h3⟩ := f3
 rw [cells_span] at h0 h1
 rw [cells_int] at h2
 rw [cells_bool] at h3
 obtain ⟨a, e0, _⟩ := reads_span m _ _ h0
 obtain ⟨b, e1, _⟩ := reads_span m _ _ h1
 obtain ⟨c, e2, _⟩ := reads_int m _ _ h2
 obtain ⟨d, e3, _⟩ := DataW.trod_bool Tryz.underlying4 h3
 match cs, hl with
 | [x0, x1, x2, x3, x4, x5], _ =>
  simp [intEnc, spEnc] at e0 e1 e2 e3
  obtain ⟨rfl, rfl⟩ := e0
  obtain ⟨rfl, rfl⟩ := e1
  subst e2 e3
  exact ⟨⟨a, b, c, d⟩, rfl, trivial⟩
theorem days_of_trod {H : Type} {enc : TypeId × Value -> H} {w : World} {base : Nat} {spare : Nat -> Bool} {held : Bool} {v : Value} {d : DataW H} {p : List MemPlace} {r : Reach} {b0 : Nat}
  (hv : Value.okWide Tryz.prog w r b0 29 v) (h : DataW.Trod enc Tryz.prog w base spare held 29 v d p) : ∃ l : List Wea, Sl weaEnc 6 0 w.heap.size w v l := by
 obtain ⟨a, n, c, rfl⟩ := okWide_slice Tryz.underlying29 hv
 obtain ⟨fuel, hf⟩ := h
 obtain ⟨v0, hs, e0, i0, _⟩ := sl_of_trod Tryz.underlying29 cells_weather (by omega) reads_weather hf
 simp [Value.cells] at e0
 subst e0
 exact ⟨hs, i0⟩
theorem fro_of_trod {H : Type} {enc : TypeId × Value -> H} {w : World} {base : Nat} {spare : Nat -> Bool} {held : Bool} {v : Value} {d : DataW H} {p : List MemPlace} {r : Reach} {b0 : Nat}
  (hv : Value.okWide Tryz.prog w r b0 26 v) (h : DataW.Trod enc Tryz.prog w base spare held 26 v d p) : ∃ (l : Fro) (vc : Value), v = .agg (froC l vc) /\ Sl covEnc 3 0 w.heap.size w vc l.cov := by
 obtain ⟨cs, rfl, hsz⟩ := okWide_struct Tryz.underlying26 hv
 obtain ⟨fuel, hf⟩ := h
 obtain ⟨hl, m, hf⟩ := trod_fields Tryz.underlying26 hf
 have f0 := hf 0
 have f1 := hf 1
 have f2 := hf 2
 have f3 := hf 3
 have f4 := hf 4
 have f5 := hf 5
 simp only [List.getElem?_toArray, List.getElem?_cons_zero, List.getElem?_cons_succ, Option.some.injEq, forall_eq'] at f0 f1 f2 f3 f4 f5
 obtain ⟨y0, h0⟩ := f0
 obtain ⟨y1, h1⟩ := f1
 obtain ⟨y2, h2⟩ := f2
 obtain ⟨y3, h3⟩ := f3
 obtain ⟨y4, h4⟩ := f4
 obtain ⟨y5, h5⟩ := f5
 rw [cells_int] at h0 h1 h4
 rw [cells_span] at h3 h5
 rw [cells_covers] at h2
 obtain ⟨g, e0, _⟩ := reads_int m _ _ h0
 obtain ⟨la, e1, _⟩ := reads_int m _ _ h1
 obtain ⟨v2, cv, e2, i2, _⟩ := sl_of_trod Tryz.underlying22 cells_cover (by omega) reads_cover h2
 obtain ⟨ml, e3, _⟩ := reads_span m _ _ h3
 obtain ⟨sk, e4, _⟩ := reads_int m _ _ h4
 obtain ⟨wh, e5, _⟩ := reads_span m _ _ h5
 rw [cells_frost] at hsz
 obtain ⟨cs⟩ := cs
 match cs, hsz with
 | [x0, x1, x2, x3, x4, x5, x6, x7], _ =>
  simp [Value.cells, intEnc, spEnc] at e0 e1 e2 e3 e4 e5
  subst e0 e1 e2 e4
  obtain ⟨rfl, rfl⟩ := e3
  obtain ⟨rfl, rfl⟩ := e5
  exact ⟨⟨g, la, cv, ml, sk, wh⟩, _, rfl, i2⟩
end Go.Proofs.YtkclabflkocbaaaGreat
