/- append onto an empty literal, as a resource turns. -/
import Derived.Test.YtfifldbinnkdmaaCopy
import Derived.Test.YtfifldbinnkdmaaBun
set_option linter.unusedVariables false
set_option linter.unusedSimpArgs false
set_option linter.unnecessarySimpa false
namespace Go.Proofs.Ytfifldbinnkdmaa
open Go.RowKit
section
variable {α : Type} {P : Program} {t e : TypeId} {sz bytes : Nat} {enc : α → List Value}
theorem copy_block {w : World} {g base : Nat} {v' : Value} {l : List α} {w' : World} (ok : ElemOk P t e sz bytes enc) (ty : TypeId) (hg : Bk w g e #[]) (lo hi : Nat) (v : Value) (hl : Sl enc sz lo hi w v l) (hbig : l.length ≤ 100000000000) (hb : base ≤ g)
    (hr : (Builtin.append_ #[t, t] ty #[.slice (some ⟨g, 0, none⟩) 0 0, v]).run P w = .ok v' w') : ∀ k, v'.ownBlock = some k → k = g ∨ w.heap.size ≤ k := by
  by_cases h0 : l.length = 0
  · obtain ⟨a, c, rfl, rfl⟩ := hl.nil_ h0
    obtain ⟨i, z, hi, hz, hsz, hby, hzs⟩ := ok.info
    have : (Builtin.append_ #[t, t] ty #[.slice (some ⟨g, 0, none⟩) 0 0, .slice a 0 c]).run P w = .ok (.slice (some ⟨g, 0, none⟩) 0 0) w := by
      cases a <;> simp [Builtin.append_, run_underlying ok.under, sizeOf, typeInfo, hi, storeCells, loadCells, loadCellsFrom, Builtin.lenOf, Builtin.firstCells]
    rw [this] at hr
    injection hr with hr _
    subst hr
    intro k hk
    simp [Value.ownBlock] at hk
    exact .inl hk.symm
  · obtain ⟨b, off, c, rfl, h1, h2, h3⟩ := hl.form (by omega)
    have hfl : ∀ (l : List α) (j : Nat) (u : Value), (l.flatMap enc)[j]? = some u → ∃ i k x, l[i]? = some x ∧ (enc x)[k]? = some u ∧ j = i * sz + k := by
      intro l
      induction l with
      | nil => intro j u h; simp at h
      | cons x l ih =>
        intro j u h
        rw [List.flatMap_cons] at h
        by_cases hj : j < sz
        · rw [List.getElem?_append_left (by rw [ok.len]; exact hj)] at h
          exact ⟨0, j, x, rfl, h, by omega⟩
        · rw [List.getElem?_append_right (by rw [ok.len]; omega), ok.len] at h
          obtain ⟨i, k, y, h1, h2, h3⟩ := ih _ _ h
          exact ⟨i + 1, k, y, h1, h2, by rw [Nat.add_mul]; omega⟩
    obtain ⟨g', cap, w2, hr2, h4, h5, h6⟩ := run_app w ok ty base (.slice (some ⟨g, 0, none⟩) 0 0) [] l (Own.empty enc e sz base hg hb) ⟨b, off, none⟩ c (by omega) (fun j u hj => by
      obtain ⟨i, k, x, e1, e2, rfl⟩ := hfl l j u hj
      have hi := (List.getElem?_eq_some_iff.1 e1)
      obtain ⟨hi, rfl⟩ := hi
      have := h3 i hi k u e2
      have hadd : (⟨b, off, none⟩ : Addr).add (i * sz + k) = ⟨b, off + i * sz + k, none⟩ := by
        unfold Addr.add
        split <;> simp_all <;> omega
      rw [hadd]
      exact this) (by simpa using hbig) (by have := hg.lt; omega)
    rw [hr2] at hr
    injection hr with hr _
    subst hr
    intro k hk
    simp [Value.ownBlock] at hk
    subst hk
    rcases h5 with ⟨h5, _⟩ | ⟨h5, _⟩
    · simp [Value.ownBlock] at h5
      exact .inl h5.symm
    · exact .inr (by omega)
/-- The copy, as the resource of the literal turns into a row of its own. -/
theorem step_copyB (ok : ElemOk P t e sz bytes enc) {ops : Array Oper} {o : Oper} {a : Act} {K : Act → World → Prop} {Q : Exit → Act → World → Prop} {E : Prop} {w0 w : World} {L : List Res} (hgd : o.guard = none) (s x : Operand)
    (ho : o.op = .call { callee := .builtin .append, args := #[s, x], argTypes := #[t, t] }) (base g : Nat) (hs : a.eval s = .slice (some ⟨g, 0, none⟩) 0 0) (hB : Bun w0 (rbox g e #[] :: L) w) (hb : base ≤ g)
    (lo hi : Nat) (v : Value) (l : List α) (hx : a.eval x = v) (hl : Sl enc sz lo hi w v l) (hbig : l.length ≤ 100000000000)
    (h : ∀ v' w', Bun w0 (rown enc e sz base v' l :: L) w' → w.heap.size ≤ w'.heap.size → K (a.put o.dst v') w') :
    if Region.wanted o (yielded ops a.tmps) = true then Oper.wp P o a w K Q else E := by
  have hw : Region.wanted o (yielded ops a.tmps) = true := by simp [Region.wanted, hgd]
  have hg : Bk w g e #[] := hB.at 0 rfl
  rw [if_pos hw]
  obtain ⟨v', w', hr, h2, h3⟩ := run_copy w ok o.type base g hg lo hi v l hl hbig hb
  have hk := copy_block (base := base) ok o.type hg lo hi v hl hbig hb hr
  unfold Oper.wp execOp
  simp only [ho, resolve, invoke, builtin, Sem.run_bind, Sem.run_pure, Result.andThen_ok, List.map_toArray, List.map_cons, List.map_nil, hs, hx, hr]
  refine h v' w' (hB.wr rfl h3 (fun k e => by injection e with e; exact e.symm) h2 fun k e => ⟨?_, (h2.lt k e).2⟩) h3.size
  rcases hk k e with h4 | h4
  · exact .inl h4
  · exact .inr h4
end
end Go.Proofs.Ytfifldbinnkdmaa
