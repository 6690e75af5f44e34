/- A slice is put behind a row of one's own, in a drawn region; a copy there. -/
import Derived.Test.YtfifldbinnkdmaaK1
set_option linter.unusedVariables false
set_option linter.unusedSimpArgs false
set_option linter.unnecessarySimpa false
namespace Go.Proofs.Ytfifldbinnkdmaa
open Go.RowKit
section
variable {α : Type} {P : Program} {t e : TypeId} {sz bytes : Nat} {enc : α → List Value}
theorem wp_appS (ok : ElemOk P t e sz bytes enc) {o : Oper} {a : Act} {K : Act → World → Prop} {Q : Exit → Act → World → Prop} {w0 w : World} {L : List Res} (s x : Operand)
    (ho : o.op = .call { callee := .builtin .append, args := #[s, x], argTypes := #[t, t] }) (base : Nat) (v : Value) (l : List α) (hs : a.eval s = v) (hB : Bun w0 (rown enc e sz base v l :: L) w)
    (lo hi : Nat) (vy : Value) (ys : List α) (hx : a.eval x = vy) (hy : Sl enc sz lo hi w vy ys) (hbig : l.length + ys.length ≤ 100000000000) (hbase : base ≤ w.heap.size)
    (h : ∀ v' w', Bun w0 (rown enc e sz base v' (l ++ ys) :: L) w' → w.heap.size ≤ w'.heap.size → K (a.put o.dst v') w') : o.wp P a w K Q := by
  have hown : Own enc e sz base w v l := hB.at 0 rfl
  by_cases h0 : ys.length = 0
  · obtain ⟨ad, c, rfl, rfl⟩ := hy.nil_ h0
    have hr : (Builtin.append_ #[t, t] o.type #[v, .slice ad 0 c]).run P w = .ok v w := by
      obtain ⟨i, z, h1, h2, h3', h4, h5⟩ := ok.info
      rcases hown.2 with ⟨rfl, _⟩ | ⟨g, cap, cur, rfl, _, _, hnc, _⟩
      · cases ad <;> simp [Builtin.append_, run_underlying ok.under, sizeOf, typeInfo, h1, Builtin.lenOf, Builtin.firstCells, storeCells, loadCells, loadCellsFrom]
      · cases ad <;> simp [Builtin.append_, run_underlying ok.under, sizeOf, typeInfo, h1, Builtin.lenOf, Builtin.firstCells, hnc, storeCells, loadCells, loadCellsFrom]
    unfold Oper.wp execOp
    simp only [ho, resolve, invoke, builtin, Sem.run_bind, Sem.run_pure, Result.andThen_ok, List.map_toArray, List.map_cons, List.map_nil, hs, hx, hr]
    exact h v w (by rw [List.append_nil]; exact hB) (Nat.le_refl _)
  · obtain ⟨b, off, c, rfl, h1, h2, h3⟩ := hy.form (by omega)
    have hfl : ∀ (l : List α) (j : Nat) (u : Value), (l.flatMap enc)[j]? = some u → ∃ i k x, l[i]? = some x ∧ (enc x)[k]? = some u ∧ j = i * sz + k := by
      intro l
      induction l with
      | nil => intro j u h; simp at h
      | cons x l ih =>
        intro j u h
        rw [List.flatMap_cons] at h
        by_cases hj : j < sz
        · rw [List.getElem?_append_left (by rw [ok.len]; exact hj)] at h
          exact ⟨0, j, x, rfl, h, by omega⟩
        · rw [List.getElem?_append_right (by rw [ok.len]; omega), ok.len] at h
          obtain ⟨i, k, y, h1, h2, h3⟩ := ih _ _ h
          exact ⟨i + 1, k, y, h1, h2, by rw [Nat.add_mul]; omega⟩
    refine wp_app w ok s x ho base v l ys hs hown ⟨b, off, none⟩ ys.length c hx rfl (by omega) (fun j u hj => ?_) _ rfl hbig hbase _ rfl fun g cap w' hp => h _ _ (hB.app hp (Nat.le_refl _)) hp.gb.size
    obtain ⟨i, k, x, e1, e2, rfl⟩ := hfl ys j u hj
    obtain ⟨hi, rfl⟩ := List.getElem?_eq_some_iff.1 e1
    have := h3 i hi k u e2
    have hadd : (⟨b, off, none⟩ : Addr).add (i * sz + k) = ⟨b, off + i * sz + k, none⟩ := by
      unfold Addr.add
      split <;> simp_all <;> omega
    rw [hadd]
    exact this
theorem step_appS (ok : ElemOk P t e sz bytes enc) {ops : Array Oper} {o : Oper} {a : Act} {K : Act → World → Prop} {Q : Exit → Act → World → Prop} {E : Prop} {w0 w : World} {L : List Res} (hgd : o.guard = none) (s x : Operand)
    (ho : o.op = .call { callee := .builtin .append, args := #[s, x], argTypes := #[t, t] }) (base : Nat) (v : Value) (l : List α) (hs : a.eval s = v) (hB : Bun w0 (rown enc e sz base v l :: L) w)
    (lo hi : Nat) (vy : Value) (ys : List α) (hx : a.eval x = vy) (hy : Sl enc sz lo hi w vy ys) (hbig : l.length + ys.length ≤ 100000000000) (hbase : base ≤ w.heap.size)
    (h : ∀ v' w', Bun w0 (rown enc e sz base v' (l ++ ys) :: L) w' → w.heap.size ≤ w'.heap.size → K (a.put o.dst v') w') : if Region.wanted o (yielded ops a.tmps) = true then Oper.wp P o a w K Q else E := by
  have hw : Region.wanted o (yielded ops a.tmps) = true := by simp [Region.wanted, hgd]
  rw [if_pos hw]
  exact wp_appS ok s x ho base v l hs hB lo hi vy ys hx hy hbig hbase h
end
end Go.Proofs.Ytfifldbinnkdmaa
