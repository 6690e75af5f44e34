/- append onto an empty literal: a copy of a slice that reads as a list. -/
import Derived.Test.YtfifldbinnkdmaaApp
import Derived.Deep.Upon
set_option linter.unusedVariables false
set_option linter.unusedSimpArgs false
set_option linter.unnecessarySimpa false
namespace Go.Proofs.Ytfifldbinnkdmaa
open Go.RowKit
section
variable {α : Type} {P : Program} {t e : TypeId} {sz bytes : Nat} {enc : α → List Value} (w : World)

theorem Own.empty (enc : α → List Value) (e : TypeId) (sz base : Nat) {w : World} {g : Nat} (hg : Bk w g e #[]) (hb : base ≤ g) : Own enc e sz base w (.slice (some ⟨g, 0, none⟩) 0 0) [] :=
  ⟨by simp, .inr ⟨g, 0, #[], rfl, hb, hg, Nat.le_refl _, Nat.zero_le _, by simp, by simp⟩⟩
theorem run_copy (ok : ElemOk P t e sz bytes enc) (ty : TypeId) (base g : Nat) (hg : Bk w g e #[]) (lo hi : Nat) (v : Value) (l : List α) (hl : Sl enc sz lo hi w v l) (hbig : l.length ≤ 100000000000) (hb : base ≤ g) :
    ∃ v' w', (Builtin.append_ #[t, t] ty #[.slice (some ⟨g, 0, none⟩) 0 0, v]).run P w = .ok v' w' ∧ Own enc e sz base w' v' l ∧ w.grownBy w' (some g) := by
  have hgl := hg.lt
  by_cases h0 : l.length = 0
  · obtain ⟨a, c, rfl, rfl⟩ := hl.nil_ h0
    obtain ⟨i, z, hi, hz, hsz, hby, hzs⟩ := ok.info
    refine ⟨.slice (some ⟨g, 0, none⟩) 0 0, w, ?_, Own.empty enc e sz base hg hb, gb_refl _ _⟩
    cases a <;> simp [Builtin.append_, run_underlying ok.under, sizeOf, typeInfo, hi, storeCells, loadCells, loadCellsFrom, Builtin.lenOf, Builtin.firstCells]
  · obtain ⟨b, off, c, rfl, h1, h2, h3⟩ := hl.form (by omega)
    have hfl : ∀ (l : List α) (j : Nat) (u : Value), (l.flatMap enc)[j]? = some u → ∃ i k x, l[i]? = some x ∧ (enc x)[k]? = some u ∧ j = i * sz + k := by
      intro l
      induction l with
      | nil => intro j u h; simp at h
      | cons x l ih =>
        intro j u h
        rw [List.flatMap_cons] at h
        by_cases hj : j < sz
        · rw [List.getElem?_append_left (by rw [ok.len]; exact hj)] at h
          exact ⟨0, j, x, rfl, h, by omega⟩
        · rw [List.getElem?_append_right (by rw [ok.len]; omega), ok.len] at h
          obtain ⟨i, k, y, h1, h2, h3⟩ := ih _ _ h
          exact ⟨i + 1, k, y, h1, h2, by rw [Nat.add_mul]; omega⟩
    obtain ⟨g', cap, w', hr, h4, h5, h6⟩ := run_app w ok ty base (.slice (some ⟨g, 0, none⟩) 0 0) [] l (Own.empty enc e sz base hg hb) ⟨b, off, none⟩ c (by omega) (fun j u hj => by
      obtain ⟨i, k, x, e1, e2, rfl⟩ := hfl l j u hj
      have hi := (List.getElem?_eq_some_iff.1 e1)
      obtain ⟨hi, rfl⟩ := hi
      have := h3 i hi k u e2
      have hadd : (⟨b, off, none⟩ : Addr).add (i * sz + k) = ⟨b, off + i * sz + k, none⟩ := by
        unfold Addr.add
        split <;> simp_all <;> omega
      rw [hadd]
      exact this) (by simpa using hbig) (by omega)
    refine ⟨_, w', hr, by simpa using h4, ?_⟩
    rcases h5 with ⟨h5, h7⟩ | ⟨h5, h7⟩
    · simp [Value.ownBlock] at h5
      subst h5
      exact h7
    · exact gb_trans' (gb_refl _ _) h7 (fun _ e => by cases e)
theorem wp_copy (ok : ElemOk P t e sz bytes enc) {o : Oper} {a : Act} {K : Act → World → Prop} {Q : Exit → Act → World → Prop} (s x : Operand)
    (ho : o.op = .call { callee := .builtin .append, args := #[s, x], argTypes := #[t, t] }) (base g : Nat) (hs : a.eval s = .slice (some ⟨g, 0, none⟩) 0 0) (hg : Bk w g e #[]) (hb : base ≤ g)
    (lo hi : Nat) (v : Value) (l : List α) (hx : a.eval x = v) (hl : Sl enc sz lo hi w v l) (hbig : l.length ≤ 100000000000)
    (h : ∀ v' w', Own enc e sz base w' v' l → w.grownBy w' (some g) → K (a.put o.dst v') w') : o.wp P a w K Q := by
  obtain ⟨v', w', hr, h2, h3⟩ := run_copy w ok o.type base g hg lo hi v l hl hbig hb
  unfold Oper.wp execOp
  simp only [ho, resolve, invoke, builtin, Sem.run_bind, Sem.run_pure, Result.andThen_ok, List.map_toArray, List.map_cons, List.map_nil, hs, hx, hr]
  exact h v' w' h2 h3
theorem wpList_copy (ok : ElemOk P t e sz bytes enc) {ops : Array Oper} {rest : List Oper} {o : Oper} {a : Act} {Q : Exit → Act → World → Prop} (hgd : o.guard = none) (s x : Operand)
    (ho : o.op = .call { callee := .builtin .append, args := #[s, x], argTypes := #[t, t] }) (base g : Nat) (hs : a.eval s = .slice (some ⟨g, 0, none⟩) 0 0) (hg : Bk w g e #[]) (hb : base ≤ g)
    (lo hi : Nat) (v : Value) (l : List α) (hx : a.eval x = v) (hl : Sl enc sz lo hi w v l) (hbig : l.length ≤ 100000000000)
    (h : ∀ v' w', Own enc e sz base w' v' l → w.grownBy w' (some g) → wpList P ops Q rest (a.put o.dst v') w') : wpList P ops Q (o :: rest) a w :=
  wpList_plain hgd fun _ hK => wp_copy w ok s x ho base g hs hg hb lo hi v l hx hl hbig fun v' w' h1 h2 => hK _ _ (h v' w' h1 h2)
theorem step_copy (ok : ElemOk P t e sz bytes enc) {ops : Array Oper} {o : Oper} {a : Act} {K : Act → World → Prop} {Q : Exit → Act → World → Prop} {E : Prop} (hgd : o.guard = none) (s x : Operand)
    (ho : o.op = .call { callee := .builtin .append, args := #[s, x], argTypes := #[t, t] }) (base g : Nat) (hs : a.eval s = .slice (some ⟨g, 0, none⟩) 0 0) (hg : Bk w g e #[]) (hb : base ≤ g)
    (lo hi : Nat) (v : Value) (l : List α) (hx : a.eval x = v) (hl : Sl enc sz lo hi w v l) (hbig : l.length ≤ 100000000000)
    (h : ∀ v' w', Own enc e sz base w' v' l → w.grownBy w' (some g) → K (a.put o.dst v') w') :
    if Region.wanted o (yielded ops a.tmps) = true then Oper.wp P o a w K Q else E := by
  have hw : Region.wanted o (yielded ops a.tmps) = true := by simp [Region.wanted, hgd]
  rw [if_pos hw]
  exact wp_copy w ok s x ho base g hs hg hb lo hi v l hx hl hbig h
end
end Go.Proofs.Ytfifldbinnkdmaa
