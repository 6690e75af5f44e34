/- A cell of a row of the call's own is written. -/
import Derived.Test.YtcndphefomigeaaDoorPBun
import Derived.Test.YtcndphefomigeaaDoorPG1
set_option linter.unusedVariables false
set_option linter.unusedSimpArgs false
set_option linter.unnecessarySimpa false
namespace Go.Proofs.YtcndphefomigeaaDoor
open Go.RowKit
section
variable {α : Type} {enc : α → List Value} {e : TypeId} {sz base : Nat}
theorem flat_set (hlen : ∀ x, (enc x).length = sz) : ∀ (l : List α) (i : Nat) (x y : α) (j : Nat) (u : Value), l[i]? = some x → j < sz → enc y = (enc x).set j u → (l.flatMap enc).set (i * sz + j) u = (l.set i y).flatMap enc := by
  intro l
  induction l with
  | nil => intro i x y j u h; simp at h
  | cons z l ih =>
    intro i x y j u h hj hy
    cases i with
    | zero =>
      simp at h
      subst h
      rw [List.set_cons_zero, List.flatMap_cons, List.flatMap_cons, hy, Nat.zero_mul, Nat.zero_add, List.set_append_left _ _ (by rw [hlen]; exact hj)]
    | succ i =>
      rw [List.set_cons_succ, List.flatMap_cons, List.flatMap_cons, List.set_append_right _ _ (by rw [hlen, Nat.succ_mul]; omega), hlen]
      rw [show (i + 1) * sz + j - sz = i * sz + j by rw [Nat.succ_mul]; omega]
      rw [ih i x y j u (by simpa using h) hj hy]
theorem Own.set {w : World} {g n cap : Nat} {l : List α} (hlen : ∀ x, (enc x).length = sz) (h : Own enc e sz base w (.slice (some ⟨g, 0, none⟩) n cap) l) {i j : Nat} {x y : α} {u : Value} (hx : l[i]? = some x) (hj : j < sz) (hy : enc y = (enc x).set j u) :
    Own enc e sz base (w.setCell ⟨g, i * sz + j, none⟩ u) (.slice (some ⟨g, 0, none⟩) n cap) (l.set i y) := by
  obtain ⟨h0, h1⟩ := h
  have hil := (List.getElem?_eq_some_iff.1 hx).1
  rcases h1 with ⟨h1, _⟩ | ⟨g', cap', cur, hv, hb, hh, hnc, hcm, hcs, htk⟩
  · cases h1
  · injection hv with e1 e2 e3
    injection e1 with e1
    injection e1 with e1
    subst e1 e2 e3
    refine ⟨?_, .inr ⟨g, cap, cur.setIfInBounds (i * sz + j) u, by simp, hb, ?_, by simpa using hnc, hcm, by simpa using hcs, ?_⟩⟩
    · rw [flat_len hlen]
    · simp [World.setCell, Array.getElem?_modify, hh]
    · rw [List.length_set, ← flat_set hlen l i x y j u hx hj hy, ← htk]
      rw [Array.toList_setIfInBounds, List.take_set]
theorem Bun.setOwn {w0 w : World} {L : List Res} {g n cap : Nat} {l : List α} (hlen : ∀ x, (enc x).length = sz) (h : Bun w0 (rown enc e sz base (.slice (some ⟨g, 0, none⟩) n cap) l :: L) w) {i j : Nat} {x y : α} {u : Value} (hx : l[i]? = some x) (hj : j < sz) (hy : enc y = (enc x).set j u) {k : Nat} (hk : i * sz + j = k) :
    Bun w0 (rown enc e sz base (.slice (some ⟨g, 0, none⟩) n cap) (l.set i y) :: L) (w.setCell ⟨g, k, none⟩ u) := by
  subst hk
  have ho : Own enc e sz base w (.slice (some ⟨g, 0, none⟩) n cap) l := h.at 0 rfl
  have h2 := Own.set hlen ho hx hj hy
  refine h.wr rfl (gb_setCell (gb_refl w (some g)) (p := ⟨g, i * sz + j, none⟩) (.inl rfl) u) (fun g' e => by cases e; rfl) h2 fun k e => ?_
  exact ⟨.inl e, (h2.lt k e).2⟩
/-- A cell of a row of one's own may be written. -/
theorem Own.live {w : World} {g n cap : Nat} {l : List α} (h : Own enc e sz base w (.slice (some ⟨g, 0, none⟩) n cap) l) (o : Nat) : w.frozen? ⟨g, o, none⟩ = false := by
  obtain ⟨h0, h1⟩ := h
  rcases h1 with ⟨h1, _⟩ | ⟨g', cap', cur, hv, hb, hh, _⟩
  · cases h1
  · injection hv with e1
    injection e1 with e1
    injection e1 with e1
    subst e1
    simp [World.frozen?, hh]
end
end Go.Proofs.YtcndphefomigeaaDoor
/- append onto an empty literal, as a resource turns. -/
namespace Go.Proofs.YtcndphefomigeaaDoor
open Go.RowKit
section
variable {α : Type} {P : Program} {t e : TypeId} {sz bytes : Nat} {enc : α → List Value}
theorem copy_block {w : World} {g base : Nat} {v' : Value} {l : List α} {w' : World} (ok : ElemOk P t e sz bytes enc) (ty : TypeId) (hg : Bk w g e #[]) (lo hi : Nat) (v : Value) (hl : Sl enc sz lo hi w v l) (hbig : l.length ≤ 100000000000) (hb : base ≤ g)
    (hr : (Builtin.append_ #[t, t] ty #[.slice (some ⟨g, 0, none⟩) 0 0, v]).run P w = .ok v' w') : ∀ k, v'.ownBlock = some k → k = g ∨ w.heap.size ≤ k := by
  by_cases h0 : l.length = 0
  · obtain ⟨a, c, rfl, rfl⟩ := hl.nil_ h0
    obtain ⟨i, z, hi, hz, hsz, hby, hzs⟩ := ok.info
    have : (Builtin.append_ #[t, t] ty #[.slice (some ⟨g, 0, none⟩) 0 0, .slice a 0 c]).run P w = .ok (.slice (some ⟨g, 0, none⟩) 0 0) w := by
      cases a <;> simp [Builtin.append_, run_underlying ok.under, sizeOf, typeInfo, hi, storeCells, loadCells, loadCellsFrom, Builtin.lenOf, Builtin.firstCells]
    rw [this] at hr
    injection hr with hr _
    subst hr
    intro k hk
    simp [Value.ownBlock] at hk
    exact .inl hk.symm
  · obtain ⟨b, off, c, rfl, h1, h2, h3⟩ := hl.form (by omega)
    have hfl : ∀ (l : List α) (j : Nat) (u : Value), (l.flatMap enc)[j]? = some u → ∃ i k x, l[i]? = some x ∧ (enc x)[k]? = some u ∧ j = i * sz + k := by
      intro l
      induction l with
      | nil => intro j u h; simp at h
      | cons x l ih =>
        intro j u h
        rw [List.flatMap_cons] at h
        by_cases hj : j < sz
        · rw [List.getElem?_append_left (by rw [ok.len]; exact hj)] at h
          exact ⟨0, j, x, rfl, h, by omega⟩
        · rw [List.getElem?_append_right (by rw [ok.len]; omega), ok.len] at h
          obtain ⟨i, k, y, h1, h2, h3⟩ := ih _ _ h
          exact ⟨i + 1, k, y, h1, h2, by rw [Nat.add_mul]; omega⟩
    obtain ⟨g', cap, w2, hr2, h4, h5, h6⟩ := run_app w ok ty base (.slice (some ⟨g, 0, none⟩) 0 0) [] l (Own.empty enc e sz base hg hb) ⟨b, off, none⟩ c (by omega) (fun j u hj => by
      obtain ⟨i, k, x, e1, e2, rfl⟩ := hfl l j u hj
      have hi := (List.getElem?_eq_some_iff.1 e1)
      obtain ⟨hi, rfl⟩ := hi
      have := h3 i hi k u e2
      have hadd : (⟨b, off, none⟩ : Addr).add (i * sz + k) = ⟨b, off + i * sz + k, none⟩ := by
        unfold Addr.add
        split <;> simp_all <;> omega
      rw [hadd]
      exact this) (by simpa using hbig) (by have := hg.lt; omega)
    rw [hr2] at hr
    injection hr with hr _
    subst hr
    intro k hk
    simp [Value.ownBlock] at hk
    subst hk
    rcases h5 with ⟨h5, _⟩ | ⟨h5, _⟩
    · simp [Value.ownBlock] at h5
      exact .inl h5.symm
    · exact .inr (by omega)
end
end Go.Proofs.YtcndphefomigeaaDoor
