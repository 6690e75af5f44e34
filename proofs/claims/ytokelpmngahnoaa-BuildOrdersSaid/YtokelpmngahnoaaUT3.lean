/- build and its reference: the reference's Times. -/
import Derived.Test.YtokelpmngahnoaaUT2
set_option linter.unusedVariables false
set_option linter.unusedSimpArgs false
set_option linter.unnecessarySimpa false
namespace Go.Proofs.Ytokelpmngahnoaa
open Go.RowKit
set_option maxRecDepth 100000
attribute [local go_sem] Oper.semAt_some
def rcase (lo hi : Nat) (vh vw vf vk : Value) (lh lw lf : List Int) (rows : List (Value × List Bool)) : Res :=
 ⟨false, fun x => lo <= x /\ x < hi, fun w => CaseAt lo hi w vh vw vf vk lh lw lf rows, fun _ _ _ hg hr h => ⟨Sl.gb h.h hg (fun g e => by have := hr g e; omega), Sl.gb h.w_ hg (fun g e => by have := hr g e; omega), Sl.gb h.f hg (fun g e => by have := hr g e; omega), Sl.gb h.k hg (fun g e => by have := hr g e; omega), fun r hrr => Sl.gb (h.r r hrr) hg (fun g e => by have := hr g e; omega)⟩⟩
theorem Bun.slW {α : Type} {enc : α -> List Value} {sz lo hi : Nat} {v : Value} {l : List α} {w0 A : World} {L : List Res} (i : Nat) (h : Bun w0 L A) (hi_ : L[i]? = some (rsl enc sz lo hi v l)) : Sl enc sz 0 A.heap.size A v l := by
 have hP : Sl enc sz lo hi A v l := h.at i hi_
 have hb := fun g hx => (h.ltAt i hi_ g hx).1
 obtain ⟨hm, a, c, hv, h2⟩ := hP
 refine ⟨hm, a, c, hv, ?_⟩
 rcases h2 with h2 | ⟨b, off, ha, h3, h4, h5⟩
 · exact .inl h2
 · exact .inr ⟨b, off, ha, Nat.zero_le _, hb b ⟨h3, h4⟩, h5⟩
theorem rcaseOf_r (wb : Bool) (lo hi : Nat) (vm vt : Value) (ms : List Mch) (ts : List Tsk) (lo2 hi2 : Nat) (vd : Value) (dl : List Wea) (w : World) (hj : JobAt lo hi w vm vt ms ts) (h2 : hi <= w.heap.size) (hd : Sl weaEnc 6 lo2 hi2 w vd dl) (h3 : hi2 <= w.heap.size) (hok : JobOk ms ts) (hn : dl.length <= 400) (b : Bool) (hb : decide (isW wb) = b) :
  Calls Try.prog 27 #[.agg #[vm, vt], vd, .bool b] w (fun e w' => ∃ (v1 v2 v3 v4 : Value) (lh lw lf : List Int) (rows : List (Value × List Bool)) (lo hi : Nat), e = .returned (.agg #[v1, v2, v3, v4]) /\ (w.heap.size <= lo /\ hi <= w'.heap.size) /\ CaseAt lo hi w' v1 v2 v3 v4 lh lw lf rows ∧
   (CsIs (caseOf wb ms ts dl) ms ts lh lw lf (rows.map (·.2)) /\ ∀ r ∈ rows, sliceB r.1 = true) /\ w.grownBy w' none) := by
 subst hb
 have := hok.nm
 have := hok.nt
 refine (rcaseOf_c wb lo hi vm vt ms ts lo2 hi2 vd dl w hj h2 hd h3 (by omega) (by omega) (by omega)).mono ?_
 rintro e w' ⟨v1, v2, v3, v4, lh, lw, lf, rows, rfl, hc, hB⟩
 have h1 : Own intEnc 3 1 w.heap.size w' v1 lh := hB.at 0 rfl
 have h2 : Own intEnc 3 1 w.heap.size w' v2 lw := hB.at 1 rfl
 have h3 : Own intEnc 3 1 w.heap.size w' v3 lf := hB.at 2 rfl
 have h4 : Own vEncS 56 1 w.heap.size w' v4 (rows.map (·.1)) := hB.at 3 rfl
 have h5 : ∀ t ∈ rows, Own boEnc 4 1 w.heap.size w' t.1 t.2 := hB.at 4 rfl
 exact ⟨v1, v2, v3, v4, lh, lw, lf, rows, w.heap.size, w'.heap.size, rfl, ⟨Nat.le_refl _, Nat.le_refl _⟩, ⟨Own.sl h1 (fun _ => rfl), Own.sl h2 (fun _ => rfl), Own.sl h3 (fun _ => rfl), Own.sl h4 (fun _ => rfl), fun r hr => Own.sl (h5 r hr) (fun _ => rfl)⟩, hc, hB.gb⟩
theorem rplan_b (wb : Bool) (lo hi : Nat) (vm vt : Value) (ms : List Mch) (ts : List Tsk) (dl : List Wea) (lo3 hi3 : Nat) (vh vw vf vk : Value) (lh lw lf : List Int) (rows : List (Value × List Bool)) (w : World) (hj : JobAt lo hi w vm vt ms ts) (h2 : hi <= w.heap.size) (hca : CaseAt lo3 hi3 w vh vw vf vk lh lw lf rows) (h4 : hi3 <= w.heap.size)
  (hcs : CsIs (caseOf wb ms ts dl) ms ts lh lw lf (rows.map (·.2)) /\ ∀ r ∈ rows, sliceB r.1 = true) (hok : JobOk ms ts) (hn : dl.length <= 400) (x : Int) (hx : (caseOf wb ms ts dl).opn ts.length = x) :
  Calls Try.prog 66 #[.agg #[vm, vt], .int .i64 (dl.length : Int), .agg #[vh, vw, vf, vk]] w (fun e w' => ∃ (a : Option Addr) (cp lo hi : Nat), e = .returned (.tuple #[.slice a ts.length cp, .int .i64 x]) /\ (w.heap.size <= lo /\ hi <= w'.heap.size) /\ Sl prEnc 2 lo hi w' (.slice a ts.length cp) ((caseOf wb ms ts dl).plan ts.length) /\ w.grownBy w' none) := by
 subst hx
 have := hok.nt
 exact (rplan_c lo hi vm vt ms ts dl.length lo3 hi3 vh vw vf vk lh lw lf rows (caseOf wb ms ts dl) w hj h2 hca h4 hcs.2 rfl hcs.1 (caseOk hok hn) (by omega) (by have := hok.nm; omega) (fun k t hk => (hok.to_ k t hk).m) (fun k t hk => (hok.to_ k t hk).af)).mono fun _ _ h => h
end Go.Proofs.Ytokelpmngahnoaa
