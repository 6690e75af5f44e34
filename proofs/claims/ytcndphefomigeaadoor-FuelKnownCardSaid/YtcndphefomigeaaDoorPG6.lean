/- What a walk has in hand that was handed a seed: resources, in the world at hand. -/
import Derived.Test.YtcndphefomigeaaDoorPBun
import Derived.Test.YtcndphefomigeaaDoorPG5
import Derived.Test.YtcndphefomigeaaDoorPMarks
set_option linter.unusedVariables false
set_option linter.unusedSimpArgs false
set_option linter.unnecessarySimpa false
namespace Go.Proofs.YtcndphefomigeaaDoor
open Go.RowKit

structure Bus (w0 : World) (sd : Nat) (L : List Res) (w : World) : Prop where
  all : ∀ r ∈ L, r.P w
  bd : ∀ r ∈ L, ∀ g, r.X g → g < w.heap.size ∧ (r.mine = true → w0.heap.size ≤ g ∨ g = sd)
  dis : L.Pairwise fun a b => (a.mine = true ∨ b.mine = true) → ∀ g, a.X g → ¬ b.X g
  gb : w0.grownBy w (some sd)

section
variable {w0 A B : World} {L : List Res} {sd : Nat}
theorem Bus.nil (w : World) : Bus w sd [] w := ⟨fun _ h => (by cases h), fun _ h => (by cases h), .nil, gb_refl _ _⟩
theorem Bus.gn (h : Bus w0 sd L A) (hg : A.grownBy B none) : Bus w0 sd L B :=
  ⟨fun r hr => r.st A B none hg (fun _ e => by cases e) (h.all r hr), fun r hr g hx => ⟨Nat.lt_of_lt_of_le (h.bd r hr g hx).1 hg.size, (h.bd r hr g hx).2⟩, h.dis, gb_none h.gb hg⟩
theorem Bus.drew (h : Bus w0 sd L A) : Bus w0 sd L A.drew := h.gn (gb_drew (gb_refl _ _))
theorem Bus.drewN (h : Bus w0 sd L A) (n : Nat) : Bus w0 sd L (A.drewN n) := h.gn (gb_drewN (gb_refl _ _) n)
theorem Bus.alloc (h : Bus w0 sd L A) (o : Obj) : Bus w0 sd L (A.alloc o) := h.gn (gb_alloc (gb_refl _ _) o)
/-- The first resource is written. -/
theorem Bus.wr {r r' : Res} {q : Option Nat} (h : Bus w0 sd (r :: L) A) (hm : r.mine = true) (hg : A.grownBy B q) (hq : ∀ g, q = some g → r.X g) (hP : r'.P B)
    (hX : ∀ g, r'.X g → (r.X g ∨ A.heap.size ≤ g) ∧ g < B.heap.size) : Bus w0 sd (r' :: L) B := by
  have hd := h.dis
  rw [List.pairwise_cons] at hd
  refine ⟨fun x hx => ?_, fun x hx g hxg => ?_, ?_, gb_trans' h.gb hg fun g e => ((h.bd r (.head _) g (hq g e)).2 hm).symm.imp (fun h => by rw [h]) id⟩
  · rcases List.mem_cons.1 hx with rfl | hx
    · exact hP
    · exact x.st A B q hg (fun g e => hd.1 x hx (.inl hm) g (hq g e)) (h.all x (.tail _ hx))
  · rcases List.mem_cons.1 hx with rfl | hx
    · refine ⟨(hX g hxg).2, fun _ => ?_⟩
      rcases (hX g hxg).1 with h1 | h1
      · exact (h.bd r (.head _) g h1).2 hm
      · exact .inl (Nat.le_trans h.gb.size h1)
    · exact ⟨Nat.lt_of_lt_of_le (h.bd x (.tail _ hx) g hxg).1 hg.size, (h.bd x (.tail _ hx) g hxg).2⟩
  · rw [List.pairwise_cons]
    refine ⟨fun x hx _ g hg1 hg2 => ?_, hd.2⟩
    rcases (hX g hg1).1 with h1 | h1
    · exact hd.1 x hx (.inl hm) g h1 hg2
    · have := (h.bd x (.tail _ hx) g hg2).1
      omega
/-- One resource more, in blocks that are new. -/
theorem Bus.add (r' : Res) (h : Bus w0 sd L A) (hg : A.grownBy B none) (hP : r'.P B) (hX : ∀ g, r'.X g → A.heap.size ≤ g ∧ g < B.heap.size) : Bus w0 sd (r' :: L) B := by
  have hB := h.gn hg
  refine ⟨fun x hx => ?_, fun x hx g hxg => ?_, ?_, hB.gb⟩
  · rcases List.mem_cons.1 hx with rfl | hx
    · exact hP
    · exact hB.all x hx
  · rcases List.mem_cons.1 hx with rfl | hx
    · exact ⟨(hX g hxg).2, fun _ => .inl (Nat.le_trans h.gb.size (hX g hxg).1)⟩
    · exact hB.bd x hx g hxg
  · rw [List.pairwise_cons]
    refine ⟨fun x hx _ g hg1 hg2 => ?_, h.dis⟩
    have := (h.bd x hx g hg2).1
    have := (hX g hg1).1
    omega
theorem Bus.perm {L' : List Res} (h : Bus w0 sd L A) (hp : L.Perm L') : Bus w0 sd L' A :=
  ⟨fun r hr => h.all r (hp.mem_iff.2 hr), fun r hr => h.bd r (hp.mem_iff.2 hr), (hp.pairwise_iff (fun h1 h2 g hg hg' => h1 h2.symm g hg' hg)).1 h.dis, h.gb⟩
theorem Bus.sub {L' : List Res} (h : Bus w0 sd L A) (hp : L'.Sublist L) : Bus w0 sd L' A := ⟨fun r hr => h.all r (hp.subset hr), fun r hr => h.bd r (hp.subset hr), h.dis.sublist hp, h.gb⟩
/-- Number i comes to the front. -/
theorem perm_front' {α : Type} : ∀ (l : List α) (i : Nat) (x : α), l[i]? = some x → l.Perm (x :: l.eraseIdx i)
  | [], i, x, h => by simp at h
  | y :: l, 0, x, h => by simp at h; subst h; exact List.Perm.refl _
  | y :: l, i + 1, x, h => by
    have h1 := perm_front' l i x (by simpa using h)
    exact (List.Perm.cons y h1).trans (List.Perm.swap x y _)
theorem Bus.front (i : Nat) {r : Res} {L' : List Res} (h : Bus w0 sd L A) (hr : L[i]? = some r) (hL : L.eraseIdx i = L') : Bus w0 sd (r :: L') A := hL ▸ h.perm (perm_front' L i r hr)
theorem Bus.drop (i : Nat) {L' : List Res} (h : Bus w0 sd L A) (hL : L.eraseIdx i = L') : Bus w0 sd L' A := hL ▸ h.sub (List.eraseIdx_sublist _ _)
theorem Bus.at (i : Nat) {r : Res} (h : Bus w0 sd L A) (hr : L[i]? = some r) : r.P A := h.all r (List.mem_of_getElem? hr)
theorem Bus.ltAt (i : Nat) {r : Res} (h : Bus w0 sd L A) (hr : L[i]? = some r) (g : Nat) (hx : r.X g) : g < A.heap.size ∧ (r.mine = true → w0.heap.size ≤ g ∨ g = sd) := h.bd r (List.mem_of_getElem? hr) g hx
theorem Bus.neAt (i j : Nat) {r r' : Res} (h : Bus w0 sd L A) (hr : L[i]? = some r) (hr' : L[j]? = some r') (hij : i ≠ j) (hm : r.mine = true ∨ r'.mine = true) (g : Nat) (hx : r.X g) : ¬ r'.X g := by
  have key : ∀ (i j : Nat) (r r' : Res), L[i]? = some r → L[j]? = some r' → i < j → (r.mine = true ∨ r'.mine = true) → ∀ g, r.X g → ¬ r'.X g := fun i j r r' hr hr' hlt hm => by
    have hi := List.getElem?_eq_some_iff.1 hr
    have hj := List.getElem?_eq_some_iff.1 hr'
    have := List.pairwise_iff_getElem.1 h.dis i j hi.1 hj.1 hlt
    rw [hi.2, hj.2] at this
    exact this hm
  rcases Nat.lt_or_gt_of_ne hij with h1 | h1
  · exact key i j r r' hr hr' h1 hm g hx
  · exact fun hx' => key j i r' r hr' hr h1 hm.symm g hx' hx
/-- Some of what is in hand, in an order that is asked for. -/
theorem Bus.pick (is : List Nat) {L' : List Res} (h : Bus w0 sd L A) (hn : is.Nodup) (hL : is.map (fun i => L[i]?) = L'.map some) : Bus w0 sd L' A := by
  have hlen : is.length = L'.length := by have := congrArg List.length hL; simpa using this
  have g : ∀ k (hk : k < L'.length), L[is[k]'(by omega)]? = some L'[k] := fun k hk => by
    have h1 : (is.map (fun i => L[i]?))[k]? = (L'.map some)[k]? := by rw [hL]
    rw [List.getElem?_map, List.getElem?_map, List.getElem?_eq_getElem (by omega : k < is.length), List.getElem?_eq_getElem hk] at h1
    simpa using h1
  have m : ∀ r ∈ L', ∃ i, L[i]? = some r := fun r hr => by
    obtain ⟨k, hk, rfl⟩ := List.getElem_of_mem hr
    exact ⟨_, g k hk⟩
  refine ⟨fun r hr => ?_, fun r hr => ?_, ?_, h.gb⟩
  · obtain ⟨i, hi⟩ := m r hr
    exact h.all r (List.mem_of_getElem? hi)
  · obtain ⟨i, hi⟩ := m r hr
    exact h.bd r (List.mem_of_getElem? hi)
  · rw [List.pairwise_iff_getElem]
    intro i j hi hj hij hm gg hx
    have hne : is[i]'(by omega) ≠ is[j]'(by omega) := List.pairwise_iff_getElem.1 hn i j (by omega) (by omega) hij
    exact h.neAt _ _ (g i hi) (g j hj) hne hm gg hx
/-! the kinds -/
theorem Bus.new (h : Bus w0 sd L A) (t : TypeId) (cs : Array Value) {n : Nat} (hn : A.heap.size = n) : Bus w0 sd (rbox n t cs :: L) (A.alloc (.cells cs t)) := by
  subst hn
  refine h.add (rbox _ t cs) (gb_alloc (gb_refl _ _) _) (Bk.new A t cs) (fun g e => ?_)
  cases e
  simp
theorem Bus.set {g : Nat} {t : TypeId} {cs : Array Value} (h : Bus w0 sd (rbox g t cs :: L) A) (i : Nat) (u : Value) : Bus w0 sd (rbox g t (cs.setIfInBounds i u) :: L) (A.setCell ⟨g, i, none⟩ u) := by
  have hb : Bk A g t cs := h.all _ (.head _)
  refine h.wr rfl (gb_setCell (gb_refl A (some g)) (p := ⟨g, i, none⟩) (.inl rfl) u) (fun g' e => by cases e; rfl) (Bk.set hb i u) (fun g' e => ⟨.inl e, ?_⟩)
  cases e
  simpa [World.setCell] using hb.lt
theorem Bus.seed {s : Nat} (h : Bus w0 sd (rseed s :: L) A) (hg : A.grownBy B (some s)) (hs : SeedAt B s) : Bus w0 sd (rseed s :: L) B :=
  h.wr rfl hg (fun _ e => by cases e; rfl) hs fun g e => ⟨.inl e, by cases e; exact hs.lt⟩
/-- An own row that is appended to. -/
theorem Bus.app {α : Type} {enc : α → List Value} {e : TypeId} {sz base base' : Nat} {v : Value} {l ys : List α} {H N g cap : Nat} (h : Bus w0 sd (rown enc e sz base v l :: L) A) (hp : AppPost enc e sz base' A v l ys H N g cap B) (hH : A.heap.size ≤ H) :
    Bus w0 sd (rown enc e sz base' (.slice (some ⟨g, 0, none⟩) N cap) (l ++ ys) :: L) B :=
  h.wr rfl hp.gb (fun k e => e) hp.own fun k e => ⟨by
    have e' : g = k := by simpa [rown, Value.ownBlock] using e
    subst e'
    rcases hp.at_ with h1 | h1
    · exact .inl h1
    · exact .inr (by omega), by
    have e' : g = k := by simpa [rown, Value.ownBlock] using e
    subst e'
    exact hp.lt⟩
end
theorem Bus.setOwn {α : Type} {enc : α → List Value} {e : TypeId} {sz base sd : Nat} {w0 w : World} {L : List Res} {g n cap : Nat} {l : List α} (hlen : ∀ x, (enc x).length = sz) (h : Bus w0 sd (rown enc e sz base (.slice (some ⟨g, 0, none⟩) n cap) l :: L) w) {i j : Nat} {x y : α} {u : Value} (hx : l[i]? = some x) (hj : j < sz) (hy : enc y = (enc x).set j u) {k : Nat} (hk : i * sz + j = k) :
    Bus w0 sd (rown enc e sz base (.slice (some ⟨g, 0, none⟩) n cap) (l.set i y) :: L) (w.setCell ⟨g, k, none⟩ u) := by
  subst hk
  have ho : Own enc e sz base w (.slice (some ⟨g, 0, none⟩) n cap) l := h.at 0 rfl
  have h2 := Own.set hlen ho hx hj hy
  refine h.wr rfl (gb_setCell (gb_refl w (some g)) (p := ⟨g, i * sz + j, none⟩) (.inl rfl) u) (fun g' e => by cases e; rfl) h2 fun k e => ?_
  exact ⟨.inl e, (h2.lt k e).2⟩
end Go.Proofs.YtcndphefomigeaaDoor
/- The ways out of a block meet again. -/
namespace Go.Proofs.YtcndphefomigeaaDoor
open Go.RowKit
end Go.Proofs.YtcndphefomigeaaDoor
