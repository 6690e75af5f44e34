/- The arguments of a statement, opened: lists of numbers, spans. -/
import Derived.Test.YtlefmbjipdlcfaaMK1
import Derived.ProofKit
import Derived.OpenShut
import Derived.ShutString
import Derived.ChangeOld
import Derived.Below
import Derived.Deep.Slices
import Derived.Test.YtlefmbjipdlcfaaMKF1
import Derived.Test.YtlefmbjipdlcfaaMF29
set_option linter.unusedVariables false
set_option linter.unusedSimpArgs false
set_option linter.unnecessarySimpa false
namespace Go.Proofs.Ytlefmbjipdlcfaa
open Go.ChangeShapes Go.WideShapes Go.ChangeAt Go.RowKit
set_option maxRecDepth 100000
section
variable {H : Type} {enc : TypeId × Value -> H} {P : Program} {w : World} {base : Nat} {spare : Nat -> Bool} {held : Bool}
def Reads {α : Type} (P : Program) (t : TypeId) (en : α -> List Value) (ok : α -> Prop) : Prop :=
 ∀ {H : Type} {enc : TypeId × Value -> H} {w : World} {base : Nat} {spare : Nat -> Bool} {held : Bool} (n : Nat) (cs : List Value) (y : DataW H × List MemPlace), DataW.trod enc P w base spare held n t cs = some y -> ∃ x : α, cs = en x /\ ok x
theorem sl_of_trod {α : Type} {en : α -> List Value} {ok : α -> Prop} {t e : TypeId} {sz : Nat} (ht : P.underlying t = some (.slice e)) (hc : P.cellsOf e = sz) (hsz : 0 < sz) (hr : Reads P e en ok)
  {fuel : Nat} {cs : List Value} {y : DataW H × List MemPlace} (h : DataW.trod enc P w base spare held fuel t cs = some y) : ∃ v l, cs = [v] /\ Sl en sz 0 w.heap.size w v l /\ ∀ x ∈ l, ok x := by
 rcases Go.Deep.open_slice ht h with ⟨rfl, _⟩ | ⟨a, len, cap, m, n, D, Pl, rfl, _, hl, hm, hmm, _, hel⟩
 · exact ⟨_, [], rfl, Sl.of_nil _ _, fun x hx => by cases hx⟩
 have hle : len <= m := by rw [hmm]; split <;> omega
 have hx : ∀ i, i < len -> ∃ x : α, (∀ j u, (en x)[j]? = some u -> w.cell? ((a.add (i * sz)).add j) = some u) /\ ok x /\ (a.add (i * sz)).block < w.heap.size /\ (en x).length = sz := fun i hi => by
  obtain ⟨cs', h1, h2⟩ := hel i (by omega)
  rw [hc] at h1
  obtain ⟨x, rfl, hok⟩ := hr n cs' _ h2
  have hlt := World.cells?_block h1 hsz
  unfold World.cells? at h1
  split at h1
  ·
   have key : ∀ (l : List Nat) (ys : List Value), l.mapM (fun i_1 => w.cell? ((a.add (i * sz)).add i_1)) = some ys -> ys.length = l.length /\ ∀ (j : Nat) u, ys[j]? = some u -> ∃ k : Nat, l[j]? = some k /\ w.cell? ((a.add (i * sz)).add k) = some u := by
    intro l
    induction l with
    | nil => intro ys hy; simp at hy; subst hy; exact ⟨rfl, fun j u h => by simp at h⟩
    | cons k l ih =>
     intro ys hy
     rw [List.mapM_cons] at hy
     cases hk : w.cell? ((a.add (i * sz)).add k) with
     | none => rw [hk] at hy; cases hy
     | some v =>
      rw [hk] at hy
      cases hl2 : l.mapM (fun i_1 => w.cell? ((a.add (i * sz)).add i_1)) with
      | none => rw [hl2] at hy; cases hy
      | some zs =>
       rw [hl2] at hy
       cases hy
       obtain ⟨i1, i2⟩ := ih zs hl2
       refine ⟨by simp [i1], fun j u hj => ?_⟩
       cases j with
       | zero => cases hj; exact ⟨k, rfl, hk⟩
       | succ j => exact i2 j u hj
   obtain ⟨k1, k2⟩ := key _ _ h1
   refine ⟨x, fun j u hj => ?_, hok, hlt, by simpa using k1⟩
   obtain ⟨k, e1, e2⟩ := k2 j u hj
   have : k = j := by
    have := List.getElem?_eq_some_iff.1 e1
    obtain ⟨q, q'⟩ := this
    simp at q'
    omega
   subst this
   exact e2
  · cases h1
 let f : Nat -> Option α := fun i => if h : i < len then some (Classical.choose (hx i h)) else none
 by_cases h0 : len = 0
 ·
  subst h0
  exact ⟨_, [], rfl, Sl.of_nil _ _, fun x hx => by cases hx⟩
 have hx0 := hx 0 (by omega)
 refine ⟨_, (List.range len).attach.map fun i => Classical.choose (hx i.1 (List.mem_range.1 i.2)), rfl, ⟨by simp; omega, some a, cap, by simp, .inr ⟨a.block, a.off, ?_, Nat.zero_le _, ?_, ?_⟩⟩, fun x hxm => ?_⟩
 ·
  obtain ⟨x, q1, _, _, q4⟩ := hx0
  have q := q1 0 ((en x)[0]'(by omega)) (List.getElem?_eq_getElem (by omega))
  simp only [Nat.zero_mul, Addr.add, if_true] at q
  obtain ⟨b, o, s⟩ := a
  have : s = none := by
   cases s with
   | none => rfl
   | some k => simp [World.cell?] at q; split at q <;> simp_all
  subst this
  rfl
 ·
  obtain ⟨x, _, _, q3, _⟩ := hx0
  simpa [Addr.add] using q3
 ·
  intro i x hi j u hj
  obtain ⟨hi', e⟩ := List.getElem?_eq_some_iff.1 hi
  simp only [List.length_map, List.length_attach, List.length_range] at hi'
  simp only [List.getElem_map, List.getElem_attach, List.getElem_range] at e
  have hs := Classical.choose_spec (hx i hi')
  rw [e] at hs
  have q := hs.1 j u hj
  have hsp : a.spot = none := by
   obtain ⟨x', q1, _, _, q4⟩ := hx0
   have q := q1 0 ((en x')[0]'(by omega)) (List.getElem?_eq_getElem (by omega))
   simp only [Nat.zero_mul, Addr.add, if_true] at q
   obtain ⟨b, o, s⟩ := a
   cases s with
   | none => rfl
   | some k => simp [World.cell?] at q; split at q <;> simp_all
  have hadd : (a.add (i * sz)).add j = ⟨a.block, a.off + i * sz + j, none⟩ := by
   obtain ⟨b, o, s⟩ := a
   simp only at hsp
   subst hsp
   unfold Addr.add
   by_cases h1 : i * sz = 0 <;> by_cases h2 : j = 0 <;> simp [h1, h2]
  rw [hadd] at q
  exact q
 obtain ⟨i, hi, rfl⟩ := List.mem_map.1 hxm
 exact (Classical.choose_spec (hx i.1 (List.mem_range.1 i.2))).2.1
end
theorem reads_int : Reads Try.prog 3 intEnc (fun z => (Lit.int .i64 z).wf = true) := fun n cs y h => by
 obtain ⟨z, e, _, hz⟩ := DataW.trod_int Try.underlying3 h
 exact ⟨z, e, hz⟩
theorem cells_int : Try.prog.cellsOf 3 = 1 := by kernel_rfl
theorem ints_of_trod {H : Type} {enc : TypeId × Value -> H} {w : World} {base : Nat} {spare : Nat -> Bool} {held : Bool} {v : Value} {d : DataW H} {p : List MemPlace} {r : Reach} {b0 : Nat}
  (hv : Value.okWide Try.prog w r b0 22 v) (h : DataW.Trod enc Try.prog w base spare held 22 v d p) : ∃ l, Ints 0 w.heap.size w v l := by
 obtain ⟨a, n, c, rfl⟩ := okWide_slice Try.underlying22 hv
 obtain ⟨fuel, hf⟩ := h
 obtain ⟨v0, hs, e0, i0, _⟩ := sl_of_trod Try.underlying22 cells_int (by omega) reads_int hf
 simp [Value.cells] at e0
 subst e0
 exact ⟨hs, i0⟩
theorem own_ : ownKnob Try.prog.godebug = none := by kernel_rfl
theorem laidOut_ : laidOutB Try.prog = true := by kernel_rfl
end Go.Proofs.Ytlefmbjipdlcfaa
/- Ice, days, laws that come in, opened. -/
namespace Go.Proofs.Ytlefmbjipdlcfaa
open Go.ChangeShapes Go.WideShapes Go.ChangeAt Go.RowKit
set_option maxRecDepth 100000
end Go.Proofs.Ytlefmbjipdlcfaa
/- Laws and days that come in, opened. -/
namespace Go.Proofs.Ytlefmbjipdlcfaa
open Go.ChangeShapes Go.WideShapes Go.ChangeAt Go.RowKit
set_option maxRecDepth 100000
end Go.Proofs.Ytlefmbjipdlcfaa
