/- What a call hands back in blocks of its own, beside what was in hand: where no seed turns. -/
import Derived.Test.YtfifldbinnkdmaaBus
set_option linter.unusedVariables false
set_option linter.unusedSimpArgs false
set_option linter.unnecessarySimpa false
namespace Go.Proofs.Ytfifldbinnkdmaa
open Go.RowKit

theorem join_new {A B : World} {L2 : List Res} (h2 : Bun A L2 B) (hm : L2.all (fun r => r.mine) = true) : ∀ r ∈ L2, ∀ g, r.X g → A.heap.size ≤ g ∧ g < B.heap.size := fun r hr g hx => by
  obtain ⟨h3, h4⟩ := h2.bd r hr g hx
  exact ⟨h4 (by have := List.all_eq_true.1 hm r hr; simpa using this), h3⟩
theorem Bun.joinN {w0 A B : World} {L L2 : List Res} (h : Bun w0 L A) (h2 : Bun A L2 B) (hm : L2.all (fun r => r.mine) = true) : Bun w0 (L2 ++ L) B := by
  have hnew := join_new h2 hm
  have hg := h.gn h2.gb
  refine ⟨fun r hr => ?_, fun r hr g hx => ?_, ?_, hg.gb⟩
  · rcases List.mem_append.1 hr with hr | hr
    · exact h2.all r hr
    · exact hg.all r hr
  · rcases List.mem_append.1 hr with hr | hr
    · exact ⟨(hnew r hr g hx).2, fun _ => Nat.le_trans h.gb.size (hnew r hr g hx).1⟩
    · exact hg.bd r hr g hx
  · rw [List.pairwise_append]
    refine ⟨h2.dis, h.dis, fun a ha b hb _ g hx hy => ?_⟩
    have h3 := (hnew a ha g hx).1
    have h4 := (h.bd b hb g hy).1
    omega
theorem Bus.joinN {w0 A B : World} {sd : Nat} {L L2 : List Res} (h : Bus w0 sd L A) (h2 : Bun A L2 B) (hm : L2.all (fun r => r.mine) = true) : Bus w0 sd (L2 ++ L) B := by
  have hnew := join_new h2 hm
  have hg := h.gn h2.gb
  refine ⟨fun r hr => ?_, fun r hr g hx => ?_, ?_, hg.gb⟩
  · rcases List.mem_append.1 hr with hr | hr
    · exact h2.all r hr
    · exact hg.all r hr
  · rcases List.mem_append.1 hr with hr | hr
    · exact ⟨(hnew r hr g hx).2, fun _ => .inl (Nat.le_trans h.gb.size (hnew r hr g hx).1)⟩
    · exact hg.bd r hr g hx
  · rw [List.pairwise_append]
    refine ⟨h2.dis, h.dis, fun a ha b hb _ g hx hy => ?_⟩
    have h3 := (hnew a ha g hx).1
    have h4 := (h.bd b hb g hy).1
    omega
theorem set_at {α : Type} {l : List α} {i : Nat} {y : α} (h : i < l.length) : (l.set i y)[i]? = some y := by rw [List.getElem?_set_self h]
end Go.Proofs.Ytfifldbinnkdmaa
