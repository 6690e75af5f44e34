/- The first elements of a slice, and the others. -/
import Derived.Test.YtokelpmngahnoaaK1
set_option linter.unusedVariables false
set_option linter.unusedSimpArgs false
set_option linter.unnecessarySimpa false
namespace Go.Proofs.Ytokelpmngahnoaa
open Go.RowKit
section
variable {α : Type} {P : Program} {t e : TypeId} {sz bytes : Nat} {enc : α → List Value}
theorem ElemOk.elem (ok : ElemOk P t e sz bytes enc) : P.elem t = e := by simp [Program.elem, ok.under]
theorem ElemOk.size (ok : ElemOk P t e sz bytes enc) (w : World) : (sizeOf e).run P w = .ok sz w := by
  obtain ⟨i, z, hi, hz, hsz, hby, hzs⟩ := ok.info
  simp [sizeOf, typeInfo, hi, hsz]
theorem slice_pre (ok : ElemOk P t e sz bytes enc) {a : Option Addr} {n c k : Nat} (hk : k ≤ c) (w : World) : (Instr.sliceAt t (.slice a n c) none (some (.int .i64 (k : Int))) none).run P w = .ok (.slice a k c) w := by
  have ht : P.underlying t = some (.slice (P.elem t)) := by rw [ok.elem]; exact ok.under
  rw [run_sliceAt_slice w t _ _ _ _ ht, run_slice_h w t a n c ht .i64 k (by omega) (by omega), ok.elem, ok.size]
  cases a <;> simp [Result.andThen, sliced, Addr.add]
theorem slice_suf (ok : ElemOk P t e sz bytes enc) {a : Option Addr} {n c k : Nat} (hk : k ≤ n) (w : World) : (Instr.sliceAt t (.slice a n c) (some (.int .i64 (k : Int))) none none).run P w = .ok (.slice (if c = k then a else a.map (·.add (k * sz))) (n - k) (c - k)) w := by
  have ht : P.underlying t = some (.slice (P.elem t)) := by rw [ok.elem]; exact ok.under
  rw [run_sliceAt_slice w t _ _ _ _ ht, run_slice_l w t a n c ht .i64 k (by omega) (by omega), ok.elem, ok.size]
  simp [Result.andThen, sliced]
theorem Sl.take {lo hi n c k : Nat} {a : Option Addr} {w : World} {l : List α} (h : Sl enc sz lo hi w (.slice a n c) l) (hk : k ≤ l.length) : Sl enc sz lo hi w (.slice a k c) (l.take k) := by
  obtain ⟨h1, a', c', h2, h3⟩ := h
  injection h2 with e1 e2 e3
  subst e1 e3
  have hl : (l.take k).length = k := by rw [List.length_take]; omega
  refine ⟨by rw [hl]; exact Nat.le_trans hk h1, a, c, by rw [hl], ?_⟩
  rcases h3 with h3 | ⟨b, off, h4, h5, h6, h7⟩
  · refine .inl ?_
    first | (rw [h3]; simp) | (rw [hl]; omega)
  · exact .inr ⟨b, off, h4, h5, h6, fun i x hi j u hj => h7 i x (by rw [List.getElem?_take] at hi; split at hi <;> first | exact hi | cases hi) j u hj⟩
theorem Sl.drop {lo hi n c k : Nat} {a : Option Addr} {w : World} {l : List α} (h : Sl enc sz lo hi w (.slice a n c) l) (hk : k ≤ l.length) (hc : l.length ≤ c) : Sl enc sz lo hi w (.slice (if c = k then a else a.map (·.add (k * sz))) (n - k) (c - k)) (l.drop k) := by
  obtain ⟨h1, a', c', h2, h3⟩ := h
  injection h2 with e1 e2 e3
  subst e1 e3 e2
  have hl : (l.drop k).length = l.length - k := by rw [List.length_drop]
  refine ⟨by rw [hl]; omega, _, _, by rw [hl], ?_⟩
  by_cases hck : c = k
  · exact .inl (by first | (apply List.eq_nil_of_length_eq_zero; rw [hl]; omega) | (rw [hl]; omega))
  · rcases h3 with h3 | ⟨b, off, h4, h5, h6, h7⟩
    · refine .inl ?_
      first | (rw [h3]; simp) | (rw [hl]; omega)
    · refine .inr ⟨b, off + k * sz, ?_, h5, h6, fun i x hi j u hj => ?_⟩
      · rw [if_neg hck, h4]; simp [Addr.add]
        all_goals omega
      · have h8 := h7 (k + i) x (by rw [List.getElem?_drop] at hi; exact hi) j u hj
        rw [show off + k * sz + i * sz + j = off + (k + i) * sz + j by rw [Nat.add_mul]; omega]
        exact h8
/-- One more way to read what is there. -/
theorem Bun.more {w0 A : World} {L : List Res} (i : Nat) {r : Res} (r' : Res) (h : Bun w0 L A) (hi : L[i]? = some r) (hm : r.mine = false) (hm' : r'.mine = false) (hX : ∀ g, r'.X g → r.X g) (hP : r'.P A) : Bun w0 (r' :: L) A := by
  have hr := List.mem_of_getElem? hi
  refine ⟨fun x hx => ?_, fun x hx g hg => ?_, ?_, h.gb⟩
  · rcases List.mem_cons.1 hx with rfl | hx
    · exact hP
    · exact h.all x hx
  · rcases List.mem_cons.1 hx with rfl | hx
    · exact ⟨(h.bd r hr g (hX g hg)).1, fun e => by rw [hm'] at e; cases e⟩
    · exact h.bd x hx g hg
  · rw [List.pairwise_cons]
    refine ⟨fun x hx hmm g h1 h2 => ?_, h.dis⟩
    rcases hmm with hmm | hmm
    · rw [hm'] at hmm; cases hmm
    · have hxr : x ≠ r := fun e => by rw [e, hm] at hmm; cases hmm
      obtain ⟨j, hj⟩ := List.getElem?_of_mem hx
      have hij : i ≠ j := fun e => by subst e; rw [hi] at hj; injection hj with hj; exact hxr hj.symm
      exact h.neAt i j hi hj hij (.inr hmm) g (hX g h1) h2
end
end Go.Proofs.Ytokelpmngahnoaa
