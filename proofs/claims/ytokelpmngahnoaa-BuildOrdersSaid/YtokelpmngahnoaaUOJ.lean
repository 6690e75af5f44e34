/- Jobs, machines, tasks and days that come in, opened. -/
import Derived.Test.YtokelpmngahnoaaUOpenG
import Derived.Test.YtokelpmngahnoaaUKA
set_option linter.unusedVariables false
set_option linter.unusedSimpArgs false
set_option linter.unnecessarySimpa false
namespace Go.Proofs.Ytokelpmngahnoaa
open Go.ChangeShapes Go.WideShapes Go.ChangeAt Go.RowKit
set_option maxRecDepth 100000
section
variable {H : Type} {enc : TypeId × Value -> H} {P : Program} {w : World} {base : Nat} {spare : Nat -> Bool} {held : Bool}
theorem sl_of_trodW {α : Type} {en : α -> List Value} {ok : α -> Prop} {t e : TypeId} {sz : Nat} (ht : P.underlying t = some (.slice e)) (hc : P.cellsOf e = sz) (hsz : 0 < sz) (hr : ∀ (n : Nat) (cs : List Value) (y : DataW H × List MemPlace), DataW.trod enc P w base spare held n e cs = some y -> ∃ x : α, cs = en x /\ ok x)
  {fuel : Nat} {cs : List Value} {y : DataW H × List MemPlace} (h : DataW.trod enc P w base spare held fuel t cs = some y) : ∃ v l, cs = [v] /\ Sl en sz 0 w.heap.size w v l /\ ∀ x ∈ l, ok x := by
 rcases Go.Deep.open_slice ht h with ⟨rfl, _⟩ | ⟨a, len, cap, m, n, D, Pl, rfl, _, hl, hm, hmm, _, hel⟩
 · exact ⟨_, [], rfl, Sl.of_nil _ _, fun x hx => by cases hx⟩
 have hle : len <= m := by rw [hmm]; split <;> omega
 have hx : ∀ i, i < len -> ∃ x : α, (∀ j u, (en x)[j]? = some u -> w.cell? ((a.add (i * sz)).add j) = some u) /\ ok x /\ (a.add (i * sz)).block < w.heap.size /\ (en x).length = sz := fun i hi => by
  obtain ⟨cs', h1, h2⟩ := hel i (by omega)
  rw [hc] at h1
  obtain ⟨x, rfl, hok⟩ := hr n cs' _ h2
  have hlt := World.cells?_block h1 hsz
  unfold World.cells? at h1
  split at h1
  ·
   have key : ∀ (l : List Nat) (ys : List Value), l.mapM (fun i_1 => w.cell? ((a.add (i * sz)).add i_1)) = some ys -> ys.length = l.length /\ ∀ (j : Nat) u, ys[j]? = some u -> ∃ k : Nat, l[j]? = some k /\ w.cell? ((a.add (i * sz)).add k) = some u := by
    intro l
    induction l with
    | nil => intro ys hy; simp at hy; subst hy; exact ⟨rfl, fun j u h => by simp at h⟩
    | cons k l ih =>
     intro ys hy
     rw [List.mapM_cons] at hy
     cases hk : w.cell? ((a.add (i * sz)).add k) with
     | none => rw [hk] at hy; cases hy
     | some v =>
      rw [hk] at hy
      cases hl2 : l.mapM (fun i_1 => w.cell? ((a.add (i * sz)).add i_1)) with
      | none => rw [hl2] at hy; cases hy
      | some zs =>
       rw [hl2] at hy
       cases hy
       obtain ⟨i1, i2⟩ := ih zs hl2
       refine ⟨by simp [i1], fun j u hj => ?_⟩
       cases j with
       | zero => cases hj; exact ⟨k, rfl, hk⟩
       | succ j => exact i2 j u hj
   obtain ⟨k1, k2⟩ := key _ _ h1
   refine ⟨x, fun j u hj => ?_, hok, hlt, by simpa using k1⟩
   obtain ⟨k, e1, e2⟩ := k2 j u hj
   have : k = j := by
    have := List.getElem?_eq_some_iff.1 e1
    obtain ⟨q, q'⟩ := this
    simp at q'
    omega
   subst this
   exact e2
  · cases h1
 let f : Nat -> Option α := fun i => if h : i < len then some (Classical.choose (hx i h)) else none
 by_cases h0 : len = 0
 ·
  subst h0
  exact ⟨_, [], rfl, Sl.of_nil _ _, fun x hx => by cases hx⟩
 have hx0 := hx 0 (by omega)
 refine ⟨_, (List.range len).attach.map fun i => Classical.choose (hx i.1 (List.mem_range.1 i.2)), rfl, ⟨by simp; omega, some a, cap, by simp, .inr ⟨a.block, a.off, ?_, Nat.zero_le _, ?_, ?_⟩⟩, fun x hxm => ?_⟩
 ·
  obtain ⟨x, q1, _, _, q4⟩ := hx0
  have q := q1 0 ((en x)[0]'(by omega)) (List.getElem?_eq_getElem (by omega))
  simp only [Nat.zero_mul, Addr.add, if_true] at q
  obtain ⟨b, o, s⟩ := a
  have : s = none := by
   cases s with
   | none => rfl
   | some k => simp [World.cell?] at q; split at q <;> simp_all
  subst this
  rfl
 ·
  obtain ⟨x, _, _, q3, _⟩ := hx0
  simpa [Addr.add] using q3
 ·
  intro i x hi j u hj
  obtain ⟨hi', e⟩ := List.getElem?_eq_some_iff.1 hi
  simp only [List.length_map, List.length_attach, List.length_range] at hi'
  simp only [List.getElem_map, List.getElem_attach, List.getElem_range] at e
  have hs := Classical.choose_spec (hx i hi')
  rw [e] at hs
  have q := hs.1 j u hj
  have hsp : a.spot = none := by
   obtain ⟨x', q1, _, _, q4⟩ := hx0
   have q := q1 0 ((en x')[0]'(by omega)) (List.getElem?_eq_getElem (by omega))
   simp only [Nat.zero_mul, Addr.add, if_true] at q
   obtain ⟨b, o, s⟩ := a
   cases s with
   | none => rfl
   | some k => simp [World.cell?] at q; split at q <;> simp_all
  have hadd : (a.add (i * sz)).add j = ⟨a.block, a.off + i * sz + j, none⟩ := by
   obtain ⟨b, o, s⟩ := a
   simp only at hsp
   subst hsp
   unfold Addr.add
   by_cases h1 : i * sz = 0 <;> by_cases h2 : j = 0 <;> simp [h1, h2]
  rw [hadd] at q
  exact q
 obtain ⟨i, hi, rfl⟩ := List.mem_map.1 hxm
 exact (Classical.choose_spec (hx i.1 (List.mem_range.1 i.2))).2.1
end
theorem cells_weather : Try.prog.cellsOf 108 = 6 := by kernel_rfl
theorem cells_bool : Try.prog.cellsOf 4 = 1 := by kernel_rfl
theorem cells_mch : Try.prog.cellsOf 77 = 3 := by kernel_rfl
theorem cells_tsk : Try.prog.cellsOf 79 = 8 := by kernel_rfl
theorem cells_ints : Try.prog.cellsOf 27 = 1 := by kernel_rfl
theorem cells_mchs : Try.prog.cellsOf 22 = 1 := by kernel_rfl
theorem cells_tsks : Try.prog.cellsOf 23 = 1 := by kernel_rfl
theorem cells_job : Try.prog.cellsOf 25 = 2 := by kernel_rfl
theorem reads_weather : Reads Try.prog 108 weaEnc (fun _ => True) := fun n cs y h => by
 obtain ⟨hl, m, hf⟩ := trod_fields Try.underlying108 h
 rw [cells_weather] at hl
 have f0 := hf 0
 have f1 := hf 1
 have f2 := hf 2
 have f3 := hf 3
 simp only [List.getElem?_toArray, List.getElem?_cons_zero, List.getElem?_cons_succ, Option.some.injEq, forall_eq'] at f0 f1 f2 f3
 obtain ⟨y0, h0⟩ := f0
 obtain ⟨y1, h1⟩ := f1
 obtain ⟨y2, h2⟩ := f2
 obtain ⟨y3, h3⟩ := f3
 rw [cells_span] at h0 h1
 rw [cells_int] at h2
 rw [cells_bool] at h3
 obtain ⟨a, e0, _⟩ := reads_span m _ _ h0
 obtain ⟨b, e1, _⟩ := reads_span m _ _ h1
 obtain ⟨c, e2, _⟩ := reads_int m _ _ h2
 obtain ⟨d, e3, _⟩ := DataW.trod_bool Try.underlying4 h3
 match cs, hl with
 | [x0, x1, x2, x3, x4, x5], _ =>
  simp [intEnc, spEnc] at e0 e1 e2 e3
  obtain ⟨rfl, rfl⟩ := e0
  obtain ⟨rfl, rfl⟩ := e1
  subst e2 e3
  exact ⟨⟨a, b, c, d⟩, rfl, trivial⟩
theorem days_of_trod {H : Type} {enc : TypeId × Value -> H} {w : World} {base : Nat} {spare : Nat -> Bool} {held : Bool} {v : Value} {d : DataW H} {p : List MemPlace} {r : Reach} {b0 : Nat}
  (hv : Value.okWide Try.prog w r b0 26 v) (h : DataW.Trod enc Try.prog w base spare held 26 v d p) : ∃ l : List Wea, Sl weaEnc 6 0 w.heap.size w v l := by
 obtain ⟨a, n, c, rfl⟩ := okWide_slice Try.underlying26 hv
 obtain ⟨fuel, hf⟩ := h
 obtain ⟨v0, hs, e0, i0, _⟩ := sl_of_trod Try.underlying26 cells_weather (by omega) reads_weather hf
 simp [Value.cells] at e0
 subst e0
 exact ⟨hs, i0⟩
theorem reads_mch : Reads Try.prog 77 mchEnc (fun _ => True) := fun n cs y h => by
 obtain ⟨hl, m, hf⟩ := trod_fields Try.underlying77 h
 rw [cells_mch] at hl
 have f0 := hf 0
 have f1 := hf 1
 have f2 := hf 2
 simp only [List.getElem?_toArray, List.getElem?_cons_zero, List.getElem?_cons_succ, Option.some.injEq, forall_eq'] at f0 f1 f2
 obtain ⟨y0, h0⟩ := f0
 obtain ⟨y1, h1⟩ := f1
 obtain ⟨y2, h2⟩ := f2
 rw [cells_int] at h0 h1 h2
 obtain ⟨a, e0, _⟩ := reads_int m _ _ h0
 obtain ⟨b, e1, _⟩ := reads_int m _ _ h1
 obtain ⟨c, e2, _⟩ := reads_int m _ _ h2
 match cs, hl with
 | [x0, x1, x2], _ =>
  simp [intEnc] at e0 e1 e2
  subst e0 e1 e2
  exact ⟨⟨a, b, c⟩, rfl, trivial⟩
def AfIn (w : World) (t : Tsk) : Prop := Sl intEnc 1 0 w.heap.size w t.av t.af /\ CapOk t.av
theorem af_of_trod {H : Type} {enc : TypeId × Value -> H} {w : World} {base : Nat} {spare : Nat -> Bool} {held : Bool} {fuel : Nat} {cs : List Value} {y : DataW H × List MemPlace} (h : DataW.trod enc Try.prog w base spare held fuel 27 cs = some y) :
  ∃ v l, cs = [v] /\ Sl intEnc 1 0 w.heap.size w v l /\ CapOk v := by
 obtain ⟨v, l, e, hs, _⟩ := sl_of_trod Try.underlying27 cells_int (by omega) reads_int h
 refine ⟨v, l, e, hs, ?_⟩
 rcases Go.Deep.open_slice Try.underlying27 h with ⟨hc, _⟩ | ⟨x, len, cap, m, k, D, Pl, hc, _, hl, hm, _⟩
 ·
  rw [hc] at e
  injection e with e _
  subst e
  exact Nat.le_refl _
 rw [hc] at e
 injection e with e _
 subst e
 exact hl
theorem reads_tsk {H : Type} {enc : TypeId × Value -> H} {w : World} {base : Nat} {spare : Nat -> Bool} {held : Bool} (n : Nat) (cs : List Value) (y : DataW H × List MemPlace) (h : DataW.trod enc Try.prog w base spare held n 79 cs = some y) : ∃ x : Tsk, cs = tskEnc x /\ AfIn w x := by
 obtain ⟨hl, m, hf⟩ := trod_fields Try.underlying79 h
 rw [cells_tsk] at hl
 have f0 := hf 0
 have f1 := hf 1
 have f2 := hf 2
 have f3 := hf 3
 have f4 := hf 4
 simp only [List.getElem?_toArray, List.getElem?_cons_zero, List.getElem?_cons_succ, Option.some.injEq, forall_eq'] at f0 f1 f2 f3 f4
 obtain ⟨y0, h0⟩ := f0
 obtain ⟨y1, h1⟩ := f1
 obtain ⟨y2, h2⟩ := f2
 obtain ⟨y3, h3⟩ := f3
 obtain ⟨y4, h4⟩ := f4
 rw [cells_int] at h0
 rw [cells_span] at h1 h2 h3
 rw [cells_ints] at h4
 obtain ⟨a, e0, _⟩ := reads_int m _ _ h0
 obtain ⟨b, e1, _⟩ := reads_span m _ _ h1
 obtain ⟨c, e2, _⟩ := reads_span m _ _ h2
 obtain ⟨d, e3, _⟩ := reads_span m _ _ h3
 obtain ⟨v, l, e4, hs, hc⟩ := af_of_trod h4
 match cs, hl with
 | [x0, x1, x2, x3, x4, x5, x6, x7], _ =>
  simp [intEnc, spEnc] at e0 e1 e2 e3 e4
  obtain ⟨rfl, rfl⟩ := e1
  obtain ⟨rfl, rfl⟩ := e2
  obtain ⟨rfl, rfl⟩ := e3
  subst e0 e4
  exact ⟨⟨a, b, c, d, l, _⟩, rfl, hs, hc⟩
theorem job_of_trod {H : Type} {enc : TypeId × Value -> H} {w : World} {base : Nat} {spare : Nat -> Bool} {held : Bool} {v : Value} {d : DataW H} {p : List MemPlace} {r : Reach} {b0 : Nat}
  (hv : Value.okWide Try.prog w r b0 25 v) (h : DataW.Trod enc Try.prog w base spare held 25 v d p) : ∃ vm vt ms ts, v = .agg #[vm, vt] /\ JobAt 0 w.heap.size w vm vt ms ts := by
 obtain ⟨cs, rfl, hsz⟩ := okWide_struct Try.underlying25 hv
 obtain ⟨fuel, hf⟩ := h
 obtain ⟨hl, m, hf⟩ := trod_fields Try.underlying25 hf
 have f0 := hf 0
 have f1 := hf 1
 simp only [List.getElem?_toArray, List.getElem?_cons_zero, List.getElem?_cons_succ, Option.some.injEq, forall_eq'] at f0 f1
 obtain ⟨y0, h0⟩ := f0
 obtain ⟨y1, h1⟩ := f1
 rw [cells_mchs] at h0
 rw [cells_tsks] at h1
 obtain ⟨v0, al, e0, i0, _⟩ := sl_of_trod Try.underlying22 cells_mch (by omega) reads_mch h0
 obtain ⟨v1, ts, e1, i1, i2⟩ := sl_of_trodW Try.underlying23 cells_tsk (by omega) reads_tsk h1
 rw [cells_job] at hsz
 obtain ⟨cs⟩ := cs
 match cs, hsz with
 | [x, y], _ =>
  simp [Value.cells] at e0 e1
  subst e0 e1
  exact ⟨_, _, al, ts, rfl, ⟨i0, i1, fun t ht => i2 t ht⟩⟩
end Go.Proofs.Ytokelpmngahnoaa
