/- build: a case made of numbers, within what is known; what a call need not look at is put aside. -/
import Derived.Test.YtokelpmngahnoaaVS4
import Derived.Test.YtokelpmngahnoaaVE0
import Derived.Test.YtokelpmngahnoaaVL0
set_option linter.unusedVariables false
set_option linter.unusedSimpArgs false
set_option linter.unnecessarySimpa false
namespace Go.Proofs.Ytokelpmngahnoaa
open Go.RowKit
set_option maxRecDepth 100000
def rall (l : List Res) : Res := ⟨false, fun x => ∃ r ∈ l, r.X x, fun w => ∀ r ∈ l, r.P w, fun A B q hg hr h r hrl => r.st A B q hg (fun g e hx => hr g e ⟨r, hrl, hx⟩) (h r hrl)⟩
section
variable {w0 A B : World} {K l N : List Res}
theorem Bun.hide (h : Bun w0 (K ++ l) A) : Bun w0 (K ++ [rall l]) A := by
 have hd := List.pairwise_append.1 h.dis
 refine ⟨fun r hr => ?_, fun r hr g hx => ?_, ?_, h.gb⟩
 ·
  rcases List.mem_append.1 hr with hr | hr
  · exact h.all r (List.mem_append_left _ hr)
  obtain rfl := List.mem_singleton.1 hr
  exact fun r hr => h.all r (List.mem_append_right _ hr)
 ·
  rcases List.mem_append.1 hr with hr | hr
  · exact h.bd r (List.mem_append_left _ hr) g hx
  obtain rfl := List.mem_singleton.1 hr
  obtain ⟨r, hr, hx⟩ := hx
  exact ⟨(h.bd r (List.mem_append_right _ hr) g hx).1, fun hm => by cases hm⟩
 refine List.pairwise_append.2 ⟨hd.1, List.pairwise_singleton _ _, fun a ha b hb hm g hx hy => ?_⟩
 obtain rfl := List.mem_singleton.1 hb
 obtain ⟨r, hr, hy⟩ := hy
 have hm' : a.mine = true := by
  rcases hm with hm | hm
  · exact hm
  · cases hm
 exact hd.2.2 a ha r hr (.inl hm') g hx hy
theorem Bun.show (h0 : Bun w0 (K ++ l) A) (h : Bun w0 (N ++ (K ++ [rall l])) B) (hN : N.all (fun r => r.mine) = true) : Bun w0 (N ++ (K ++ l)) B := by
 have hd := List.pairwise_append.1 h.dis
 have hmem : rall l ∈ N ++ (K ++ [rall l]) := by simp
 have hP := h.all _ hmem
 refine ⟨fun r hr => ?_, fun r hr g hx => ?_, ?_, h.gb⟩
 ·
  rcases List.mem_append.1 hr with hr | hr
  · exact h.all r (List.mem_append_left _ hr)
  rcases List.mem_append.1 hr with hr | hr
  · exact h.all r (List.mem_append_right _ (List.mem_append_left _ hr))
  · exact hP r hr
 ·
  rcases List.mem_append.1 hr with hr | hr
  · exact h.bd r (List.mem_append_left _ hr) g hx
  rcases List.mem_append.1 hr with hr | hr
  · exact h.bd r (List.mem_append_right _ (List.mem_append_left _ hr)) g hx
  · exact ⟨(h.bd _ hmem g ⟨r, hr, hx⟩).1, (h0.bd r (List.mem_append_right _ hr) g hx).2⟩
 refine List.pairwise_append.2 ⟨hd.1, h0.dis, fun a ha b hb hm g hx hy => ?_⟩
 have ham : a.mine = true := by have := List.all_eq_true.1 hN a ha; simpa using this
 rcases List.mem_append.1 hb with hb | hb
 · exact hd.2.2 a ha b (List.mem_append_left _ hb) (.inl ham) g hx hy
 · exact hd.2.2 a ha (rall l) (by simp) (.inl ham) g hx ⟨b, hb, hy⟩
end
end Go.Proofs.Ytokelpmngahnoaa
