/- Marks of ranges over a function as a resource; a walk's stop; loops and returns with marks. -/
import Derived.Test.YthblaiefalbomaaSeqI
set_option linter.unusedVariables false
set_option linter.unusedSimpArgs false
set_option linter.unnecessarySimpa false
namespace Go.Proofs.Ythblaiefalbomaa
open Go.RowKit Go.Shelf

/-- A region that draws, in a round's fence, by the calculus of drawn regions. -/
theorem ru_beginIn {P : Program} {ops : Array Oper} {Q : Exit → Act → World → Prop} {l n id : Nat} {a : Act} {w : World} (S : World → Prop) (d : Nat) (hm : P.follows .mixedOrders = true) (hd : noDefer ops = true) (hQ : ¬ LetsOut Q) (hS : S w.drew)
    (h : wpAnyU P .any ops Q S d ops.size (Array.replicate ops.size false) a w.drew) : (Code.region id ops true).wpIn (Fence.wide.inRound l) n P Q a w :=
  wpIn_draw hm hd hQ (wpAny_of_U _ _ _ _ h)
/-- No panic. -/
def calm (Q : Exit → Act → World → Prop) : Exit → Act → World → Prop
  | .panic _, _, _ => False
  | .outgrown, _, _ => False
  | e, a, w => Q e a w
theorem calm_le {Q : Exit → Act → World → Prop} (e : Exit) (a : Act) (w : World) (h : calm Q e a w) : Q e a w := by
  cases e <;> first | exact h | exact h.elim
/-- A block that is read alone. -/
def rfix (g : Nat) (t : TypeId) (cs : Array Value) : Res := ⟨false, fun x => x = g, fun w => Bk w g t cs, fun _ _ _ hg hr h => Bk.gb h hg (fun e => hr g e.symm rfl)⟩
theorem Bun.fix0 {w0 : World} {L : List Res} {g : Nat} {t : TypeId} {cs : Array Value} (h : Bun w0 L w0) (hs : Bk w0 g t cs) (hm : L.all (fun r => !r.mine) = true) : Bun w0 (rfix g t cs :: L) w0 := by
  have hm' : ∀ r ∈ L, r.mine = false := fun r hr => by have := List.all_eq_true.1 hm r hr; simpa using this
  refine ⟨fun r hr => ?_, fun r hr g hx => ?_, ?_, h.gb⟩
  · rcases List.mem_cons.1 hr with rfl | hr
    · exact hs
    · exact h.all r hr
  · rcases List.mem_cons.1 hr with rfl | hr
    · cases hx; exact ⟨hs.lt, fun e => by cases e⟩
    · exact h.bd r hr g hx
  · rw [List.pairwise_cons]
    exact ⟨(fun x hx hmm => by
      rw [hm' x hx] at hmm
      rcases hmm with h1 | h1 <;> cases h1), h.dis⟩
theorem Bun.non0 {w0 : World} {L : List Res} (r0 : Res) (h : Bun w0 L w0) (hs : r0.P w0) (hx : ∀ g, r0.X g → g < w0.heap.size) (hr0 : r0.mine = false) (hm : L.all (fun r => !r.mine) = true) : Bun w0 (r0 :: L) w0 := by
  have hm' : ∀ r ∈ L, r.mine = false := fun r hr => by have := List.all_eq_true.1 hm r hr; simpa using this
  refine ⟨fun r hr => ?_, fun r hr g hx' => ?_, ?_, h.gb⟩
  · rcases List.mem_cons.1 hr with rfl | hr
    · exact hs
    · exact h.all r hr
  · rcases List.mem_cons.1 hr with rfl | hr
    · exact ⟨hx g hx', fun e => by rw [hr0] at e; cases e⟩
    · exact h.bd r hr g hx'
  · rw [List.pairwise_cons]
    exact ⟨(fun x hx hmm => by
      rw [hm' x hx, hr0] at hmm
      rcases hmm with h1 | h1 <;> cases h1), h.dis⟩
theorem flat_at' {α : Type} {enc : α → List Value} {sz : Nat} (hsz : ∀ x, (enc x).length = sz) : ∀ (l : List α) (i : Nat) (x : α), l[i]? = some x → ∀ j u, (enc x)[j]? = some u → (l.flatMap enc)[i * sz + j]? = some u := by
  intro l
  induction l with
  | nil => intro i x h; simp at h
  | cons y l ih =>
    intro i x hi j u hj
    have hjl : j < sz := by have := (List.getElem?_eq_some_iff.1 hj).1; rw [hsz] at this; exact this
    rw [List.flatMap_cons]
    cases i with
    | zero =>
      simp at hi
      subst hi
      rw [List.getElem?_append_left (by rw [hsz]; omega)]
      simpa using hj
    | succ i =>
      rw [List.getElem?_append_right (by rw [hsz, Nat.succ_mul]; omega), hsz]
      have : (i + 1) * sz + j - sz = i * sz + j := by rw [Nat.succ_mul]; omega
      rw [this]
      exact ih i x (by simpa using hi) j u hj
/-- A literal is read as a list from here on. -/
theorem Bun.lit {α : Type} (enc : α → List Value) (sz : Nat) (l : List α) (c : Nat) {w0 A : World} {L : List Res} {g : Nat} {t : TypeId} {cs : Array Value} (h : Bun w0 (rbox g t cs :: L) A) (hsz : ∀ x, (enc x).length = sz) (hcs : cs.toList = l.flatMap enc) (hl : l.length ≤ 1000) :
    Bun w0 (rsl enc sz g (g + 1) (.slice (some ⟨g, 0, none⟩) l.length c) l :: L) A := by
  have hb : Bk A g t cs := h.all _ (.head _)
  have hs : Sl enc sz g (g + 1) A (.slice (some ⟨g, 0, none⟩) l.length c) l :=
    ⟨by unfold maxLen; omega, _, c, rfl, .inr ⟨g, 0, rfl, Nat.le_refl _, by omega, fun i x hi j u hj => by
      have h1 := flat_at' hsz l i x hi j u hj
      rw [← hcs] at h1
      rw [show 0 + i * sz + j = i * sz + j by omega, hb.cell]
      simpa using h1⟩⟩
  have hd := h.dis
  rw [List.pairwise_cons] at hd
  refine ⟨fun r hr => ?_, fun r hr x hx => ?_, ?_, h.gb⟩
  · rcases List.mem_cons.1 hr with rfl | hr
    · exact hs
    · exact h.all r (.tail _ hr)
  · rcases List.mem_cons.1 hr with rfl | hr
    · have e : x = g := by have := hx.1; have := hx.2; omega
      subst e
      exact ⟨hb.lt, fun e => by cases e⟩
    · exact h.bd r (.tail _ hr) x hx
  · rw [List.pairwise_cons]
    refine ⟨fun x hx hm y hy1 hy2 => ?_, hd.2⟩
    have e : y = g := by have := hy1.1; have := hy1.2; omega
    subst e
    exact hd.1 x hx (.inl rfl) y rfl hy2
def rmarks (Ds : List Nat) : Res :=
  ⟨true, fun x => x ∈ Ds, fun w => Ds.Nodup ∧ ∀ D ∈ Ds, w.heap[D]? = some (.deferred (some [])), fun _ _ _ hg hr h => ⟨h.1, fun D hD => (hg.block D (Array.getElem?_eq_some_iff.1 (h.2 D hD)).1 (fun e => hr D e.symm hD)).trans (h.2 D hD)⟩⟩
def mkD (D : Nat) : Deferred := { target := .collected D, args := #[] }
section
variable {w0 A B : World} {L : List Res} {sd : Nat}
theorem Bun.marks0 (h : Bun w0 L A) : Bun w0 (rmarks [] :: L) A := h.add (rmarks []) (gb_refl _ _) ⟨List.nodup_nil, fun _ h => by cases h⟩ fun _ e => by cases e
theorem Bun.mark {lo hi : Nat} {W0 : World} {Ds : List Nat} (h : Bun w0 (rkeep lo hi W0 :: rmarks Ds :: L) A) (hlt : lo < hi) (hk : A.heap[lo]? = some (.deferred (some []))) : Bun w0 (rmarks (lo :: Ds) :: L) A := by
  have h1 : KeepR lo hi W0 A := h.all _ (.head _)
  have h2 : Ds.Nodup ∧ ∀ D ∈ Ds, A.heap[D]? = some (.deferred (some [])) := h.all _ (.tail _ (.head _))
  have hd := h.dis
  rw [List.pairwise_cons] at hd
  have hd2 := hd.2
  rw [List.pairwise_cons] at hd2
  have hn : lo ∉ Ds := fun hm => hd.1 _ (.head _) (.inl rfl) lo ⟨Nat.le_refl _, hlt⟩ hm
  refine ⟨fun r hr => ?_, fun r hr g hx => ?_, ?_, h.gb⟩
  · rcases List.mem_cons.1 hr with rfl | hr
    · exact ⟨List.nodup_cons.2 ⟨hn, h2.1⟩, fun D hD => by
        rcases List.mem_cons.1 hD with rfl | hD
        · exact hk
        · exact h2.2 D hD⟩
    · exact h.all r (.tail _ (.tail _ hr))
  · rcases List.mem_cons.1 hr with rfl | hr
    · rcases List.mem_cons.1 hx with rfl | hx
      · exact h.bd _ (.head _) g ⟨Nat.le_refl _, hlt⟩
      · exact h.bd _ (.tail _ (.head _)) g hx
    · exact h.bd r (.tail _ (.tail _ hr)) g hx
  · rw [List.pairwise_cons]
    refine ⟨fun x hx hm g hg1 hg2 => ?_, hd2.2⟩
    rcases List.mem_cons.1 hg1 with rfl | hg1
    · exact hd.1 x (.tail _ hx) (.inl rfl) g ⟨Nat.le_refl _, hlt⟩ hg2
    · exact hd2.1 x hx (.inl rfl) g hg1 hg2
theorem Bun.marks {Ds : List Nat} (h : Bun w0 (rmarks Ds :: L) A) : Marks w0.heap.size A (Ds.map mkD) := by
  have h2 : Ds.Nodup ∧ ∀ D ∈ Ds, A.heap[D]? = some (.deferred (some [])) := h.all _ (.head _)
  exact ⟨Ds, rfl, h2.1, fun D hD => ⟨(h.bd _ (.head _) D hD).2 rfl, h2.2 D hD⟩⟩
end
end Go.Proofs.Ythblaiefalbomaa
