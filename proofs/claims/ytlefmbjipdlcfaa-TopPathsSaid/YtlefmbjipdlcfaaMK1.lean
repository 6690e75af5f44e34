/- Operations of a drawn region that come first: see Reg. -/
import Derived.Test.YtlefmbjipdlcfaaMReg
import Derived.Test.YtlefmbjipdlcfaaMBase
import Derived.Maps.AppendAt
import Derived.Deep.AppendLies
import Derived.Deep.Upon
import Derived.RangeFuncNested
import Derived.RangeFuncBound
import Derived.RangeFuncCalls
import Derived.RangeFuncLeaves
import Derived.Shelf.Abstract
import Derived.Shelf.RegionOpen
import Derived.OwnWalkIn
import Derived.TacticsInMore
import Derived.LoopNIn
import Derived.LoopIn
import Derived.Deep.RegionHeld3
import Derived.LoopN
import Derived.Lib.MinMax
import Derived.BigQuiet
import Derived.Deep.QuietTactic
import Derived.OrdersIn
set_option linter.unusedVariables false
set_option linter.unusedSimpArgs false
set_option linter.unnecessarySimpa false
namespace Go.Proofs.Ytlefmbjipdlcfaa
end Go.Proofs.Ytlefmbjipdlcfaa
/- Slices in memory, told as lists. -/
namespace Go.Proofs.Ytlefmbjipdlcfaa
open Go.RowKit
def Sl {α : Type} (enc : α -> List Value) (sz lo hi : Nat) (w : World) (v : Value) (l : List α) : Prop :=
 l.length <= maxLen /\ ∃ a c, v = .slice a l.length c ∧
  (l = [] ∨ ∃ b off, a = some ⟨b, off, none⟩ /\ lo <= b /\ b < hi /\ ∀ i x, l[i]? = some x -> ∀ j u, (enc x)[j]? = some u -> w.cell? ⟨b, off + i * sz + j, none⟩ = some u)
section
variable {α : Type} {enc : α -> List Value} {sz lo hi : Nat} {w w' : World} {v : Value} {l : List α}
theorem Sl.len (h : Sl enc sz lo hi w v l) : l.length <= maxLen := h.1
theorem Sl.keep (h : Sl enc sz lo hi w v l) (hk : ∀ b o, lo <= b -> b < hi -> ∀ u, w.cell? ⟨b, o, none⟩ = some u -> w'.cell? ⟨b, o, none⟩ = some u) : Sl enc sz lo hi w' v l := by
 obtain ⟨hm, a, c, hv, h⟩ := h
 refine ⟨hm, a, c, hv, ?_⟩
 rcases h with h | ⟨b, off, ha, h1, h2, h3⟩
 · exact .inl h
 · exact .inr ⟨b, off, ha, h1, h2, fun i x hi j u hj => hk b _ h1 h2 u (h3 i x hi j u hj)⟩
theorem Sl.gb {r : Option Nat} (h : Sl enc sz lo hi w v l) (hg : w.grownBy w' r) (hr : ∀ g, r = some g -> g < lo ∨ hi <= g) : Sl enc sz lo hi w' v l :=
 h.keep fun b o h1 h2 u hu => gbc hg (by
  intro e
  have := hr b e.symm
  omega) hu
theorem Sl.alloc (h : Sl enc sz lo hi w v l) (x : Obj) : Sl enc sz lo hi (w.alloc x) v l := h.keep fun b o _ _ u hu => alc x hu
theorem Sl.drew (h : Sl enc sz lo hi w v l) : Sl enc sz lo hi w.drew v l := h
theorem Sl.drewN (h : Sl enc sz lo hi w v l) (n : Nat) : Sl enc sz lo hi (w.drewN n) v l := h
theorem Sl.far (h : Sl enc sz lo hi w v l) {p : Addr} (hp : p.block < lo ∨ hi <= p.block) (u : Value) : Sl enc sz lo hi (w.setCell p u) v l :=
 h.keep fun b o h1 h2 x hx => (World.cell?_setCell_other w p ⟨b, o, none⟩ u (fun e => by
  subst e
  simp only at hp
  omega)).trans hx
theorem Sl.wide {lo' hi' : Nat} (h : Sl enc sz lo hi w v l) (h1 : lo' <= lo) (h2 : hi <= hi') : Sl enc sz lo' hi' w v l := by
 obtain ⟨hm, a, c, hv, h⟩ := h
 refine ⟨hm, a, c, hv, ?_⟩
 rcases h with h | ⟨b, off, ha, h3, h4, h5⟩
 · exact .inl h
 · exact .inr ⟨b, off, ha, by omega, by omega, h5⟩
theorem Sl.form (h : Sl enc sz lo hi w v l) (hne : 0 < l.length) : ∃ b off c, v = .slice (some ⟨b, off, none⟩) l.length c /\ lo <= b /\ b < hi ∧
  ∀ i (hi' : i < l.length) j u, (enc l[i])[j]? = some u -> w.cell? ⟨b, off + i * sz + j, none⟩ = some u := by
 obtain ⟨_, a, c, hv, h⟩ := h
 rcases h with rfl | ⟨b, off, rfl, h1, h2, h3⟩
 · simp at hne
 · exact ⟨b, off, c, hv, h1, h2, fun i hi' j u hj => h3 i l[i] (List.getElem?_eq_getElem hi') j u hj⟩
theorem Sl.nil_ (h : Sl enc sz lo hi w v l) (hne : l.length = 0) : ∃ a c, v = .slice a 0 c /\ l = [] := by
 obtain ⟨_, a, c, hv, _⟩ := h
 rw [hne] at hv
 exact ⟨a, c, hv, List.eq_nil_of_length_eq_zero hne⟩
theorem Sl.any (h : Sl enc sz lo hi w v l) : ∃ a c, v = .slice a l.length c := by
 obtain ⟨_, a, c, hv, _⟩ := h
 exact ⟨a, c, hv⟩
theorem Sl.of_nil (a : Option Addr) (c : Nat) : Sl enc sz lo hi w (.slice a 0 c) [] := ⟨Nat.zero_le _, a, c, rfl, .inl rfl⟩
end
def intEnc (z : Int) : List Value := [.int .i64 z]
abbrev Ints (lo hi : Nat) (w : World) (v : Value) (l : List Int) : Prop := Sl intEnc 1 lo hi w v l
theorem Ints.form' {lo hi : Nat} {w : World} {v : Value} {l : List Int} (h : Ints lo hi w v l) (hne : 0 < l.length) : ∃ b off c, v = .slice (some ⟨b, off, none⟩) l.length c /\ lo <= b /\ b < hi ∧
  ∀ i (hi' : i < l.length), w.cell? ⟨b, off + i, none⟩ = some (.int .i64 l[i]) := by
 obtain ⟨b, off, c, hv, h1, h2, h3⟩ := h.form hne
 refine ⟨b, off, c, hv, h1, h2, fun i hi' => ?_⟩
 have := h3 i hi' 0 _ rfl
 simpa using this
def gi (l : List Int) (i : Nat) : Int := l.getD i 0
theorem gi_get {l : List Int} {i : Nat} (h : i < l.length) : gi l i = l[i] := by simp [gi, h]
theorem Ints.at {lo hi : Nat} {w : World} {v : Value} {l : List Int} (h : Ints lo hi w v l) (hne : 0 < l.length) : ∃ b off c, v = .slice (some ⟨b, off, none⟩) l.length c /\ lo <= b /\ b < hi ∧
  ∀ i, i < l.length -> w.cell? ⟨b, off + i, none⟩ = some (.int .i64 (gi l i)) := by
 obtain ⟨b, off, c, hv, h1, h2, h3⟩ := Ints.form' h hne
 exact ⟨b, off, c, hv, h1, h2, fun i hi' => by rw [gi_get hi']; exact h3 i hi'⟩
structure Sp where
 lo : Int
 hi : Int
 deriving DecidableEq
def Sp.v (s : Sp) : Value := .agg #[.int .i64 s.lo, .int .i64 s.hi]
def spEnc (s : Sp) : List Value := [.int .i64 s.lo, .int .i64 s.hi]
abbrev Sps (lo hi : Nat) (w : World) (v : Value) (l : List Sp) : Prop := Sl spEnc 2 lo hi w v l
theorem Sps.form' {lo hi : Nat} {w : World} {v : Value} {l : List Sp} (h : Sps lo hi w v l) (hne : 0 < l.length) : ∃ b off c, v = .slice (some ⟨b, off, none⟩) l.length c /\ lo <= b /\ b < hi ∧
  ∀ i (hi' : i < l.length), w.cell? ⟨b, off + i * 2, none⟩ = some (.int .i64 l[i].lo) /\ w.cell? ⟨b, off + i * 2 + 1, none⟩ = some (.int .i64 l[i].hi) := by
 obtain ⟨b, off, c, hv, h1, h2, h3⟩ := h.form hne
 exact ⟨b, off, c, hv, h1, h2, fun i hi' => ⟨h3 i hi' 0 _ rfl, h3 i hi' 1 _ rfl⟩⟩
def Ret (v : Value) (w : World) (e : Ending) (w' : World) : Prop := e = .returned v /\ w.grownBy w' none
theorem Sl.of_own {α : Type} {enc : α -> List Value} {sz : Nat} {w : World} {v : Value} {l : List α} {base : Nat} {e : TypeId} (h : w.ownsRow base e sz v l.length (l.flatMap enc)) (hsz : ∀ x, (enc x).length = sz) :
  Sl enc sz base w.heap.size w v l := by
 have hlt := h.lt
 have hc := @World.ownsRow.cells
 obtain ⟨h0, h1⟩ := h
 rcases h1 with ⟨rfl, hn⟩ | ⟨g, cap, cur, rfl, hb, hh, hnc, hcm, hcs, htk⟩
 ·
  obtain rfl : l = [] := List.eq_nil_of_length_eq_zero hn
  exact Sl.of_nil _ _
 refine ⟨by omega, _, cap, rfl, .inr ⟨g, 0, rfl, hb, (hlt g rfl).2, fun i x hi j u hj => ?_⟩⟩
 have key : ∀ (l : List α) (i : Nat) (x : α), l[i]? = some x -> ∀ j u, (enc x)[j]? = some u -> (l.flatMap enc)[i * sz + j]? = some u := by
  intro l
  induction l with
  | nil => intro i x h; simp at h
  | cons y l ih =>
   intro i x hi j u hj
   have hjl : j < sz := by have := (List.getElem?_eq_some_iff.1 hj).1; rw [hsz] at this; exact this
   rw [List.flatMap_cons]
   cases i with
   | zero =>
    simp at hi
    subst hi
    rw [List.getElem?_append_left (by rw [hsz]; omega)]
    simpa using hj
   | succ i =>
    rw [List.getElem?_append_right (by rw [hsz, Nat.succ_mul]; omega), hsz]
    have : (i + 1) * sz + j - sz = i * sz + j := by rw [Nat.succ_mul]; omega
    rw [this]
    exact ih i x (by simpa using hi) j u hj
 have hk := key l i x hi j u hj
 rw [← htk] at hk
 have hk2 : cur.toList[i * sz + j]? = some u := by
  rw [List.getElem?_take] at hk
  split at hk
  · exact hk
  · cases hk
 rw [Nat.zero_add]
 simp only [World.cell?, hh]
 simpa using hk2
end Go.Proofs.Ytlefmbjipdlcfaa
/- A statement's own frame: its seed, its boxes, what it was handed or has made, in the world at hand. -/
namespace Go.Proofs.Ytlefmbjipdlcfaa
open Go.RowKit
structure SF (w0 : World) (sb : Option Nat) (X : Nat -> Prop) (E : World -> Prop) (bx : List (Nat × TypeId × Array Value)) (w : World) : Prop where
 seed : ∀ s, sb = some s -> SeedAt w s /\ w0.heap.size <= s /\ ¬ X s
 box : ∀ b ∈ bx, Bk w b.1 b.2.1 b.2.2 /\ some b.1 ≠ sb /\ ¬ X b.1 /\ w0.heap.size <= b.1
 nodup : (bx.map (·.1)).Nodup
 ext : E w
 mono : ∀ (A B : World) (r : Option Nat), A.grownBy B r -> (∀ g, r = some g -> ¬ X g) -> E A -> E B
 old : ∀ g, X g -> g < w.heap.size
 gb : w0.grownBy w none
section
variable {w0 A B : World} {sb : Option Nat} {X : Nat -> Prop} {E : World -> Prop} {bx : List (Nat × TypeId × Array Value)}
theorem SF.row (h : SF w0 sb X E bx A) {r : Option Nat} (hg : A.grownBy B r) (hX : ∀ g, r = some g -> ¬ X g /\ w0.heap.size <= g) (hs : ∀ s, sb = some s -> SeedAt B s) (hb : ∀ b ∈ bx, some b.1 ≠ r) : SF w0 sb X E bx B :=
 ⟨fun s e => ⟨hs s e, (h.seed s e).2⟩, fun b hm => ⟨(h.box b hm).1.gb hg (hb b hm), (h.box b hm).2⟩, h.nodup, h.mono A B r hg (fun g e => (hX g e).1) h.ext, h.mono,
  fun g hg' => Nat.lt_of_lt_of_le (h.old g hg') hg.size, gb_trans' h.gb hg fun g e => .inr (hX g e).2⟩
theorem SF.gn (h : SF w0 sb X E bx A) (hg : A.grownBy B none) : SF w0 sb X E bx B :=
 h.row hg (fun _ e => by cases e) (fun s e => (h.seed s e).1.gb hg (by simp)) (fun _ _ => by simp)
theorem SF.drew (h : SF w0 sb X E bx A) : SF w0 sb X E bx A.drew := h.gn (gb_drew (gb_refl _ _))
theorem SF.drewN (h : SF w0 sb X E bx A) (n : Nat) : SF w0 sb X E bx (A.drewN n) := h.gn (gb_drewN (gb_refl _ _) n)
theorem SF.alloc (h : SF w0 sb X E bx A) (o : Obj) : SF w0 sb X E bx (A.alloc o) := h.gn (gb_alloc (gb_refl _ _) o)
theorem SF.new (h : SF w0 sb X E bx A) (t : TypeId) (cs : Array Value) : SF w0 sb X E ((A.heap.size, t, cs) :: bx) (A.alloc (.cells cs t)) := by
 have h' := h.alloc (.cells cs t)
 refine ⟨h'.seed, fun b hm => ?_, ?_, h'.ext, h'.mono, h'.old, h'.gb⟩
 ·
  rcases List.mem_cons.1 hm with rfl | hm
  · exact ⟨Bk.new A t cs, fun e => by have := (h.seed _ e.symm).1.lt; omega, fun hx => by have := h.old _ hx; omega, h.gb.size⟩
  · exact h'.box b hm
 rw [List.map_cons, List.nodup_cons]
 refine ⟨fun hm => ?_, h.nodup⟩
 obtain ⟨b, hb, e⟩ := List.mem_map.1 hm
 have := (h.box b hb).1.lt
 omega
theorem SF.newAt (h : SF w0 sb X E bx A) (t : TypeId) (cs : Array Value) {n : Nat} (hn : A.heap.size = n) : SF w0 sb X E ((n, t, cs) :: bx) (A.alloc (.cells cs t)) := hn ▸ h.new t cs
theorem SF.set {g : Nat} {t : TypeId} {cs : Array Value} (h : SF w0 sb X E ((g, t, cs) :: bx) A) (i : Nat) (u : Value) : SF w0 sb X E ((g, t, cs.setIfInBounds i u) :: bx) (A.setCell ⟨g, i, none⟩ u) := by
 have hg := gb_setCell (gb_refl A (some g)) (p := ⟨g, i, none⟩) (.inl rfl) u
 have h0 := h.box (g, t, cs) (by simp)
 have hnd := h.nodup
 rw [List.map_cons, List.nodup_cons] at hnd
 refine ⟨fun s e => ⟨(h.seed s e).1.far (fun e' => h0.2.1 (by rw [e, e'])) _, (h.seed s e).2⟩, fun b hm => ?_, ?_, h.mono A _ _ hg (fun g' e => by cases e; exact h0.2.2.1) h.ext, h.mono, fun g' hx => Nat.lt_of_lt_of_le (h.old g' hx) hg.size,
  gb_trans' h.gb hg fun g' e => by cases e; exact .inr h0.2.2.2⟩
 ·
  rcases List.mem_cons.1 hm with rfl | hm
  · exact ⟨h0.1.set i u, h0.2⟩
  have hb := h.box b (by simp [hm])
  exact ⟨hb.1.far (fun e => hnd.1 (List.mem_map.2 ⟨b, hm, e⟩)) _, hb.2⟩
 rw [List.map_cons, List.nodup_cons]
 exact hnd
theorem SF.perm {bx' : List (Nat × TypeId × Array Value)} (h : SF w0 sb X E bx A) (hp : bx.Perm bx') : SF w0 sb X E bx' A :=
 ⟨h.seed, fun b hm => h.box b (hp.mem_iff.2 hm), (hp.map _).nodup_iff.1 h.nodup, h.ext, h.mono, h.old, h.gb⟩
theorem SF.sub {bx' : List (Nat × TypeId × Array Value)} (h : SF w0 sb X E bx A) (hp : bx'.Sublist bx) : SF w0 sb X E bx' A :=
 ⟨h.seed, fun b hm => h.box b (hp.subset hm), List.Nodup.sublist (hp.map _) h.nodup, h.ext, h.mono, h.old, h.gb⟩
theorem SF.sd {s : Nat} (h : SF w0 (some s) X E bx A) : SeedAt A s := (h.seed s rfl).1
theorem SF.more (h : SF w0 sb X E bx A) (Y : Nat -> Prop) (F : World -> Prop) (hF : F A) (hm : ∀ (A B : World) (r : Option Nat), A.grownBy B r -> (∀ g, r = some g -> ¬ Y g) -> F A -> F B)
  (hY : ∀ g, Y g -> g < A.heap.size /\ some g ≠ sb /\ ∀ b ∈ bx, b.1 ≠ g) : SF w0 sb (fun g => X g ∨ Y g) (fun W => E W /\ F W) bx A :=
 ⟨fun s e => ⟨(h.seed s e).1, (h.seed s e).2.1, fun hx => hx.elim (h.seed s e).2.2 fun hy => (hY s hy).2.1 e.symm⟩,
  fun b hb => ⟨(h.box b hb).1, (h.box b hb).2.1, fun hx => hx.elim (h.box b hb).2.2.1 fun hy => (hY _ hy).2.2 b hb rfl, (h.box b hb).2.2.2⟩, h.nodup, ⟨h.ext, hF⟩,
  fun A B r hg hr hE => ⟨h.mono A B r hg (fun g e hx => hr g e (.inl hx)) hE.1, hm A B r hg (fun g e hy => hr g e (.inr hy)) hE.2⟩,
  fun g hx => hx.elim (h.old g) fun hy => (hY g hy).1, h.gb⟩
theorem SF.start (w : World) (X : Nat -> Prop) (E : World -> Prop) (hE : E w) (hm : ∀ (A B : World) (r : Option Nat), A.grownBy B r -> (∀ g, r = some g -> ¬ X g) -> E A -> E B) (hX : ∀ g, X g -> g < w.heap.size) : SF w none X E [] w :=
 ⟨fun _ e => (by cases e), fun _ h => (by cases h), List.nodup_nil, hE, hm, hX, gb_refl _ _⟩
end
theorem Ints.cell {lo hi : Nat} {w : World} {x ox n c : Nat} {l : List Int} (h : Ints lo hi w (.slice (some ⟨x, ox, none⟩) n c) l) {i : Nat} (hi' : i < l.length) : w.cell? ⟨x, ox + i, none⟩ = some (.int .i64 (gi l i)) := by
 obtain ⟨x', ox', c', ev, _, _, H⟩ := Ints.at h (by omega)
 injection ev with e1 _ e2
 injection e1 with e1
 injection e1 with e3 e4
 subst e3 e4
 exact H i hi'
end Go.Proofs.Ytlefmbjipdlcfaa
/- append onto a row of the call's own: the old header still reads what it read; whatever lies elsewhere stays. -/
namespace Go.Proofs.Ytlefmbjipdlcfaa
open Go.RowKit
structure ElemOk {α : Type} (P : Program) (t e : TypeId) (sz bytes : Nat) (enc : α -> List Value) : Prop where
 under : P.underlying t = some (.slice e)
 info : ∃ (i : TypeInfo) (z : Value), P.info? e = some i /\ i.zero = some z /\ i.size = sz /\ i.bytes = bytes /\ z.cells.size = sz
 pos : 0 < sz
 small : bytes <= 1024
 len : ∀ x, (enc x).length = sz
 one : ∀ x, ∀ u ∈ enc x, u.oneCell' = true
def Own {α : Type} (enc : α -> List Value) (e : TypeId) (sz base : Nat) (w : World) (v : Value) (l : List α) : Prop := w.ownsRow base e sz v l.length (l.flatMap enc)
section
variable {α : Type} {enc : α -> List Value} {e : TypeId} {sz base : Nat} {w w' : World} {v : Value} {l : List α}
theorem Own.nil (enc : α -> List Value) (e : TypeId) (sz base : Nat) (w : World) : Own enc e sz base w (.slice none 0 0) [] := World.ownsRow_nil w base e sz
theorem Own.sl (h : Own enc e sz base w v l) (hsz : ∀ x, (enc x).length = sz) : Sl enc sz base w.heap.size w v l := Sl.of_own h hsz
theorem Own.lt (h : Own enc e sz base w v l) : ∀ k, v.ownBlock = some k -> base <= k /\ k < w.heap.size := World.ownsRow.lt h
theorem Own.gb {r : Option Nat} (h : Own enc e sz base w v l) (hg : w.grownBy w' r) (hr : ∀ k, r = some k -> v.ownBlock ≠ some k) : Own enc e sz base w' v l := by
 refine World.ownsRow.kept h hg ?_
 cases hv : v.ownBlock with
 | none => exact .inl rfl
 | some k => exact .inr fun e => hr k e.symm hv
theorem Own.alloc (h : Own enc e sz base w v l) (o : Obj) : Own enc e sz base (w.alloc o) v l := World.ownsRow.alloc h o
theorem Own.drew (h : Own enc e sz base w v l) : Own enc e sz base w.drew v l := h
theorem Own.drewN (h : Own enc e sz base w v l) (n : Nat) : Own enc e sz base (w.drewN n) v l := h
theorem Own.far (h : Own enc e sz base w v l) {p : Addr} (hp : ∀ k, v.ownBlock = some k -> k ≠ p.block) (u : Value) : Own enc e sz base (w.setCell p u) v l := by
 obtain ⟨h1, h2⟩ := h
 refine ⟨h1, ?_⟩
 rcases h2 with h2 | ⟨g, cap, cur, hv, hb, hg, h3⟩
 · exact .inl h2
 · exact .inr ⟨g, cap, cur, hv, hb, (Below.heap_setCell w p u g (hp g (by rw [hv]; rfl))).trans hg, h3⟩
theorem Own.form (h : Own enc e sz base w v l) (hl : 0 < l.length) : ∃ g cap, v = .slice (some ⟨g, 0, none⟩) l.length cap /\ base <= g /\ g < w.heap.size := World.ownsRow.form h hl
theorem Own.ne {g : Nat} {t : TypeId} {cs : Array Value} (h : Own enc e sz base w v l) (hg : Bk w g t cs) (hne : e ≠ t) : v.ownBlock ≠ some g := by
 rcases h.2 with ⟨rfl, _⟩ | ⟨g', cap, cur, rfl, _, hh, _⟩
 · simp [Value.ownBlock]
 intro he
 obtain rfl : g' = g := by simpa [Value.ownBlock] using he
 exact Bk.ne (t := e) hh hg hne rfl
end
theorem flat_len {α : Type} {enc : α -> List Value} {sz : Nat} (h : ∀ x, (enc x).length = sz) (l : List α) : (l.flatMap enc).length = l.length * sz := by
 induction l with
 | nil => simp
 | cons x l ih => rw [List.flatMap_cons, List.length_append, h, ih, List.length_cons, Nat.succ_mul]; omega
section
variable {α : Type} {P : Program} {t e : TypeId} {sz bytes : Nat} {enc : α -> List Value} (w : World)
theorem run_app (ok : ElemOk P t e sz bytes enc) (ty : TypeId) (base : Nat) (v : Value) (l ys : List α) (hown : Own enc e sz base w v l)
  (ad : Addr) (c : Nat) (hm : 0 < ys.length) (hnews : ∀ j u, (ys.flatMap enc)[j]? = some u -> w.cell? (ad.add j) = some u) (hbig : l.length + ys.length <= 100000000000) (hbase : base <= w.heap.size) :
  ∃ g cap w', (Builtin.append_ #[t, t] ty #[v, .slice (some ad) ys.length c]).run P w = .ok (.slice (some ⟨g, 0, none⟩) (l.length + ys.length) cap) w' ∧
   Own enc e sz base w' (.slice (some ⟨g, 0, none⟩) (l.length + ys.length) cap) (l ++ ys) /\ ((v.ownBlock = some g /\ w.grownBy w' (some g)) ∨ (g = w.heap.size /\ w.grownBy w' none)) /\ Own enc e sz base w' v l := by
 obtain ⟨i, z, hi, hz, hsz, hby, hzs⟩ := ok.info
 subst hsz
 subst hby
 have hl : (ys.flatMap enc).length = ys.length * i.size := flat_len ok.len ys
 have hl0 : (l.flatMap enc).length = l.length * i.size := flat_len ok.len l
 have hlen : (l.flatMap enc ++ ys.flatMap enc).length = (l.length + ys.length) * i.size := by rw [List.length_append, hl0, hl, Nat.add_mul]
 have h63 : l.length + ys.length <= maxLen := by simp only [maxLen]; omega
 have hbytes : (l.length + ys.length) * i.bytes <= 140737488355328 := Nat.le_trans (Nat.mul_le_mul hbig ok.small) (by omega)
 have happ : (l ++ ys).flatMap enc = l.flatMap enc ++ ys.flatMap enc := List.flatMap_append
 have hll : (l ++ ys).length = l.length + ys.length := List.length_append
 unfold Own
 rw [happ, hll]
 have grown : ∀ (old : Nat), old < l.length + ys.length →
   (w.drew.alloc (.cells ((l.flatMap enc).toArray ++ (ys.flatMap enc).toArray ++ Builtin.zeroCells z.cells (grownCap w (l.length + ys.length) old e - (l.length + ys.length))) e)).ownsRow base e i.size
    (.slice (some ⟨w.heap.size, 0, none⟩) (l.length + ys.length) (grownCap w (l.length + ys.length) old e)) (l.length + ys.length) (l.flatMap enc ++ ys.flatMap enc) ∧
   w.grownBy (w.drew.alloc (.cells ((l.flatMap enc).toArray ++ (ys.flatMap enc).toArray ++ Builtin.zeroCells z.cells (grownCap w (l.length + ys.length) old e - (l.length + ys.length))) e)) none := by
  intro old ho
  have hge := grownCap_ge w (l.length + ys.length) old e
  have hcm := grownCap_le_maxLen w (l.length + ys.length) old e h63
  refine ⟨⟨hlen, .inr ⟨w.heap.size, _, _, rfl, hbase, Bk.new w.drew e _, hge, hcm, ?_, ?_⟩⟩, gb_alloc (gb_drew (gb_refl _ _)) _⟩
  ·
   simp only [Array.size_append, List.size_toArray, size_zeroCells, hzs, hl0, hl, ← Nat.add_mul]
   congr 1
   omega
  simp only [Array.toList_append, List.append_assoc]
  rw [← List.append_assoc, ← hlen]
  exact List.take_left
 rcases hown.2 with ⟨rfl, h0⟩ | ⟨g, cap, cur, rfl, hbg, hg, hnc, hcm, hcs, htake⟩
 ·
  obtain rfl : l = [] := List.eq_nil_of_length_eq_zero h0
  have hr := run_append_nil (P := P) w t ty e i z ok.under hi hz ad ys.length c _ hl hnews (by omega) (by simp only [List.length_nil] at hbig; omega) (by simp only [List.length_nil, Nat.zero_add] at hbytes; omega)
  have hgr := grown 0 (by omega)
  simp only [List.length_nil, Nat.zero_add, List.flatMap_nil, List.nil_append, Array.empty_append] at hgr ⊢
  exact ⟨_, _, _, hr, hgr.1, .inr ⟨rfl, hgr.2⟩, World.ownsRow_nil _ _ _ _⟩
 by_cases hroom : l.length + ys.length <= cap
 ·
  have hfit : l.length * i.size + (ys.flatMap enc).length <= cur.size := by rw [hl, hcs, ← Nat.add_mul]; exact Nat.mul_le_mul_right _ hroom
  have h1 : ∀ u ∈ ys.flatMap enc, u.oneCell' = true := fun u hu => by
   obtain ⟨x, _, hx⟩ := List.mem_flatMap.1 hu
   exact ok.one x u hx
  have hr := run_append_room (P := P) w t ty e i ok.under hi g l.length cap cur hg ad ys.length c _ hl hnews h1 hroom hfit
  have hsize : (cur.toList.take (l.length * i.size) ++ ys.flatMap enc ++ cur.toList.drop (l.length * i.size + (ys.flatMap enc).length)).toArray.size = cap * i.size := by
   simp only [List.size_toArray, List.length_append, List.length_take, List.length_drop, Array.length_toList]
   omega
  refine ⟨_, _, _, hr, ⟨hlen, .inr ⟨g, cap, _, rfl, hbg, setRow_heap w g cur _ e _ hg, hroom, hcm, hsize, ?_⟩⟩, .inl ⟨rfl, ⟨rfl, rfl, rfl, by simp, fun k _ hk => setRow_other w g k _ (fun e => hk (by simp [e]))⟩⟩, ⟨hl0, .inr ⟨g, cap, _, rfl, hbg, setRow_heap w g cur _ e _ hg, hnc, hcm, hsize, ?_⟩⟩⟩
  ·
   rw [htake, ← hlen]
   exact List.take_left
  rw [htake, List.append_assoc, ← hl0]
  exact List.take_left
 have holds : ∀ j u, (l.flatMap enc)[j]? = some u -> w.cell? ((⟨g, 0, none⟩ : Addr).add j) = some u := World.ownsRow.cells hown (g := g) rfl
 have hr := run_append_grow (P := P) w t ty e i z ok.under hi hz ⟨g, 0, none⟩ l.length cap _ hl0 holds ad ys.length c _ hl hnews (by omega) (by omega) (growslice_fits (by omega) hbytes)
 have hgr := grown cap (by omega)
 exact ⟨_, _, _, hr, hgr.1, .inr ⟨rfl, hgr.2⟩, World.ownsRow.kept hown hgr.2 (.inr (by simp [Value.ownBlock]))⟩
structure AppPost (enc : α -> List Value) (e : TypeId) (sz base : Nat) (w : World) (v : Value) (l ys : List α) (H N g cap : Nat) (w' : World) : Prop where
 own : Own enc e sz base w' (.slice (some ⟨g, 0, none⟩) N cap) (l ++ ys)
 at_ : v.ownBlock = some g ∨ g = H
 gb : w.grownBy w' v.ownBlock
 old : Own enc e sz base w' v l
 lt : g < w'.heap.size
theorem wp_app (ok : ElemOk P t e sz bytes enc) {o : Oper} {a : Act} {K : Act -> World -> Prop} {Q : Exit -> Act -> World -> Prop} (s x : Operand)
  (ho : o.op = .call { callee := .builtin .append, args := #[s, x], argTypes := #[t, t] })
  (base : Nat) (v : Value) (l ys : List α) (hs : a.eval s = v) (hown : Own enc e sz base w v l)
  (ad : Addr) (m c : Nat) (hx : a.eval x = .slice (some ad) m c) (hmy : ys.length = m) (hm : 0 < m) (hnews : ∀ j u, (ys.flatMap enc)[j]? = some u -> w.cell? (ad.add j) = some u) (N : Nat) (hN : l.length + m = N) (hbig : N <= 100000000000) (hbase : base <= w.heap.size) (H : Nat) (hH : w.heap.size = H)
  (h : ∀ g cap w', AppPost enc e sz base w v l ys H N g cap w' -> K (a.put o.dst (.slice (some ⟨g, 0, none⟩) N cap)) w') : o.wp P a w K Q := by
 subst hmy hN
 obtain ⟨g, cap, w', hr, h2, h3, h4⟩ := run_app w ok o.type base v l ys hown ad c hm hnews hbig hbase
 unfold Oper.wp execOp
 simp only [ho, resolve, invoke, builtin, Sem.run_bind, Sem.run_pure, Result.andThen_ok, List.map_toArray, List.map_cons, List.map_nil, hs, hx, hr]
 refine h g cap w' ⟨h2, ?_, ?_, h4, (h2.lt g rfl).2⟩
 ·
  rcases h3 with ⟨h3, _⟩ | ⟨h3, _⟩
  · exact .inl h3
  · exact .inr (h3.trans hH)
 rcases h3 with ⟨h3, h5⟩ | ⟨_, h5⟩
 · rw [h3]; exact h5
 · exact gb_trans' (gb_refl _ _) h5 (fun _ e => by cases e)
theorem wpList_app (ok : ElemOk P t e sz bytes enc) {ops : Array Oper} {rest : List Oper} {o : Oper} {a : Act} {Q : Exit -> Act -> World -> Prop} (hgd : o.guard = none) (s x : Operand)
  (ho : o.op = .call { callee := .builtin .append, args := #[s, x], argTypes := #[t, t] })
  (base : Nat) (v : Value) (l ys : List α) (hs : a.eval s = v) (hown : Own enc e sz base w v l)
  (ad : Addr) (m c : Nat) (hx : a.eval x = .slice (some ad) m c) (hmy : ys.length = m) (hm : 0 < m) (hnews : ∀ j u, (ys.flatMap enc)[j]? = some u -> w.cell? (ad.add j) = some u) (N : Nat) (hN : l.length + m = N) (hbig : N <= 100000000000) (hbase : base <= w.heap.size) (H : Nat) (hH : w.heap.size = H)
  (h : ∀ g cap w', AppPost enc e sz base w v l ys H N g cap w' -> wpList P ops Q rest (a.put o.dst (.slice (some ⟨g, 0, none⟩) N cap)) w') : wpList P ops Q (o :: rest) a w :=
 wpList_plain hgd fun _ hK => wp_app w ok s x ho base v l ys hs hown ad m c hx hmy hm hnews N hN hbig hbase H hH fun g cap w' hp => hK _ _ (h g cap w' hp)
theorem step_app (ok : ElemOk P t e sz bytes enc) {ops : Array Oper} {o : Oper} {a : Act} {K : Act -> World -> Prop} {Q : Exit -> Act -> World -> Prop} {E : Prop} (hgd : o.guard = none) (s x : Operand)
  (ho : o.op = .call { callee := .builtin .append, args := #[s, x], argTypes := #[t, t] })
  (base : Nat) (v : Value) (l ys : List α) (hs : a.eval s = v) (hown : Own enc e sz base w v l)
  (ad : Addr) (m c : Nat) (hx : a.eval x = .slice (some ad) m c) (hmy : ys.length = m) (hm : 0 < m) (hnews : ∀ j u, (ys.flatMap enc)[j]? = some u -> w.cell? (ad.add j) = some u) (N : Nat) (hN : l.length + m = N) (hbig : N <= 100000000000) (hbase : base <= w.heap.size) (H : Nat) (hH : w.heap.size = H)
  (h : ∀ g cap w', AppPost enc e sz base w v l ys H N g cap w' -> K (a.put o.dst (.slice (some ⟨g, 0, none⟩) N cap)) w') :
  if Region.wanted o (yielded ops a.tmps) = true then Oper.wp P o a w K Q else E := by
 have hw : Region.wanted o (yielded ops a.tmps) = true := by simp [Region.wanted, hgd]
 rw [if_pos hw]
 exact wp_app w ok s x ho base v l ys hs hown ad m c hx hmy hm hnews N hN hbig hbase H hH h
end
theorem Own.at {e : TypeId} {base : Nat} {w : World} {g n cap : Nat} {l : List Int} (h : Own intEnc e 1 base w (.slice (some ⟨g, 0, none⟩) n cap) l) {i : Nat} (hi : i < l.length) : w.cell? ⟨g, i, none⟩ = some (.int .i64 (gi l i)) := by
 have hc := World.ownsRow.cells h (g := g) rfl
 have hfl : ∀ (l : List Int) (i : Nat), i < l.length -> (l.flatMap intEnc)[i]? = some (.int .i64 (gi l i)) := by
  intro l
  induction l with
  | nil => intro i h; simp at h
  | cons x l ih =>
   intro i h
   cases i with
   | zero => rfl
   | succ i =>
    have := ih i (by simpa using h)
    simpa [intEnc, gi] using this
 have := hc i _ (hfl l i hi)
 have hadd : (⟨g, 0, none⟩ : Addr).add i = ⟨g, i, none⟩ := by
  unfold Addr.add
  split <;> simp_all
 rwa [hadd] at this
theorem news_of {w : World} {g : Nat} {t : TypeId} {cs : Array Value} (h : Bk w g t cs) : ∀ j u, cs.toList[j]? = some u -> w.cell? ((⟨g, 0, none⟩ : Addr).add j) = some u := World.news_of_block h
theorem info5 {P : Program} {e : TypeId} {z : Value} {size bytes : Nat} (h : (P.info? e).map (fun i => (i.zero, i.size, i.bytes)) = some (some z, size, bytes)) (hz : z.cells.size = size) :
  ∃ (i : TypeInfo) (z : Value), P.info? e = some i /\ i.zero = some z /\ i.size = size /\ i.bytes = bytes /\ z.cells.size = size := by
 obtain ⟨i, h1, h2, h3, h4⟩ := info_parts h
 exact ⟨i, z, h1, h2, h3, h4, hz⟩
/-! ### the element types of this program -/
theorem infoInt : (Try.prog.info? 3).map (fun i => (i.zero, i.size, i.bytes)) = some (some (.int .i64 0), 1, 8) := by kernel_rfl
theorem okInt : ElemOk Try.prog 22 3 1 8 intEnc where
 under := Try.underlying22
 info := info5 infoInt rfl
 pos := by omega
 small := by omega
 len := fun _ => rfl
 one := fun x u hu => by simp [intEnc] at hu; subst hu; rfl
theorem infoSp : (Try.prog.info? 31).map (fun i => (i.zero, i.size, i.bytes)) = some (some (.agg #[.int .i64 0, .int .i64 0]), 2, 16) := by kernel_rfl
theorem okSp : ElemOk Try.prog 33 31 2 16 spEnc where
 under := Try.underlying33
 info := info5 infoSp rfl
 pos := by omega
 small := by omega
 len := fun _ => rfl
 one := fun x u hu => by
  simp [spEnc] at hu
  rcases hu with rfl | rfl <;> rfl
end Go.Proofs.Ytlefmbjipdlcfaa
/- What a walk has in hand: a list of resources, each in blocks of its own, in the world at hand. -/
namespace Go.Proofs.Ytlefmbjipdlcfaa
open Go.RowKit
structure Res where
 mine : Bool
 X : Nat -> Prop
 P : World -> Prop
 st : ∀ (A B : World) (r : Option Nat), A.grownBy B r -> (∀ g, r = some g -> ¬ X g) -> P A -> P B
def rbox (g : Nat) (t : TypeId) (cs : Array Value) : Res := ⟨true, fun x => x = g, fun w => Bk w g t cs, fun _ _ _ hg hr h => Bk.gb h hg (fun e => hr g e.symm rfl)⟩
def rseed (s : Nat) : Res := ⟨true, fun x => x = s, fun w => SeedAt w s, fun _ _ _ hg hr h => SeedAt.gb h hg (fun e => hr s e.symm rfl)⟩
def rown {α : Type} (enc : α -> List Value) (e : TypeId) (sz base : Nat) (v : Value) (l : List α) : Res :=
 ⟨true, fun x => v.ownBlock = some x, fun w => Own enc e sz base w v l, fun _ _ _ hg hr h => Own.gb h hg (fun k e e' => hr k e e')⟩
def rsl {α : Type} (enc : α -> List Value) (sz lo hi : Nat) (v : Value) (l : List α) : Res :=
 ⟨false, fun x => lo <= x /\ x < hi, fun w => Sl enc sz lo hi w v l, fun _ _ _ hg hr h => Sl.gb h hg (fun g e => by have := hr g e; omega)⟩
structure Bun (w0 : World) (L : List Res) (w : World) : Prop where
 all : ∀ r ∈ L, r.P w
 bd : ∀ r ∈ L, ∀ g, r.X g -> g < w.heap.size /\ (r.mine = true -> w0.heap.size <= g)
 dis : L.Pairwise fun a b => (a.mine = true ∨ b.mine = true) -> ∀ g, a.X g -> ¬ b.X g
 gb : w0.grownBy w none
section
variable {w0 A B : World} {L : List Res}
theorem Bun.nil (w : World) : Bun w [] w := ⟨fun _ h => (by cases h), fun _ h => (by cases h), .nil, gb_refl _ _⟩
theorem Bun.gn (h : Bun w0 L A) (hg : A.grownBy B none) : Bun w0 L B :=
 ⟨fun r hr => r.st A B none hg (fun _ e => by cases e) (h.all r hr), fun r hr g hx => ⟨Nat.lt_of_lt_of_le (h.bd r hr g hx).1 hg.size, (h.bd r hr g hx).2⟩, h.dis, gb_trans h.gb hg⟩
theorem Bun.drew (h : Bun w0 L A) : Bun w0 L A.drew := h.gn (gb_drew (gb_refl _ _))
theorem Bun.drewN (h : Bun w0 L A) (n : Nat) : Bun w0 L (A.drewN n) := h.gn (gb_drewN (gb_refl _ _) n)
theorem Bun.alloc (h : Bun w0 L A) (o : Obj) : Bun w0 L (A.alloc o) := h.gn (gb_alloc (gb_refl _ _) o)
theorem Bun.wr {r r' : Res} {q : Option Nat} (h : Bun w0 (r :: L) A) (hm : r.mine = true) (hg : A.grownBy B q) (hq : ∀ g, q = some g -> r.X g) (hP : r'.P B)
  (hX : ∀ g, r'.X g -> (r.X g ∨ A.heap.size <= g) /\ g < B.heap.size) : Bun w0 (r' :: L) B := by
 have hd := h.dis
 rw [List.pairwise_cons] at hd
 refine ⟨fun x hx => ?_, fun x hx g hxg => ?_, ?_, gb_trans' h.gb hg fun g e => .inr ((h.bd r (.head _) g (hq g e)).2 hm)⟩
 ·
  rcases List.mem_cons.1 hx with rfl | hx
  · exact hP
  · exact x.st A B q hg (fun g e => hd.1 x hx (.inl hm) g (hq g e)) (h.all x (.tail _ hx))
 ·
  rcases List.mem_cons.1 hx with rfl | hx
  ·
   refine ⟨(hX g hxg).2, fun _ => ?_⟩
   rcases (hX g hxg).1 with h1 | h1
   · exact (h.bd r (.head _) g h1).2 hm
   · exact Nat.le_trans h.gb.size h1
  · exact ⟨Nat.lt_of_lt_of_le (h.bd x (.tail _ hx) g hxg).1 hg.size, (h.bd x (.tail _ hx) g hxg).2⟩
 rw [List.pairwise_cons]
 refine ⟨fun x hx _ g hg1 hg2 => ?_, hd.2⟩
 rcases (hX g hg1).1 with h1 | h1
 · exact hd.1 x hx (.inl hm) g h1 hg2
 have := (h.bd x (.tail _ hx) g hg2).1
 omega
theorem Bun.add (r' : Res) (h : Bun w0 L A) (hg : A.grownBy B none) (hP : r'.P B) (hX : ∀ g, r'.X g -> A.heap.size <= g /\ g < B.heap.size) : Bun w0 (r' :: L) B := by
 have hB := h.gn hg
 refine ⟨fun x hx => ?_, fun x hx g hxg => ?_, ?_, hB.gb⟩
 ·
  rcases List.mem_cons.1 hx with rfl | hx
  · exact hP
  · exact hB.all x hx
 ·
  rcases List.mem_cons.1 hx with rfl | hx
  · exact ⟨(hX g hxg).2, fun _ => Nat.le_trans h.gb.size (hX g hxg).1⟩
  · exact hB.bd x hx g hxg
 rw [List.pairwise_cons]
 refine ⟨fun x hx _ g hg1 hg2 => ?_, h.dis⟩
 have := (h.bd x hx g hg2).1
 have := (hX g hg1).1
 omega
theorem Bun.wradd {r r1 : Res} (r' : Res) {q : Option Nat} (h : Bun w0 (r :: L) A) (hm : r.mine = true) (hg : A.grownBy B q) (hq : ∀ g, q = some g -> r.X g) (hP : r1.P B) (hX1 : ∀ g, r1.X g -> r.X g)
  (hP' : r'.P B) (hX : ∀ g, r'.X g -> A.heap.size <= g /\ g < B.heap.size) : Bun w0 (r' :: r1 :: L) B := by
 have hB : Bun w0 (r1 :: L) B := h.wr hm hg hq hP fun g hx => ⟨.inl (hX1 g hx), Nat.lt_of_lt_of_le (h.bd r (.head _) g (hX1 g hx)).1 hg.size⟩
 refine ⟨fun x hx => ?_, fun x hx g hxg => ?_, ?_, hB.gb⟩
 ·
  rcases List.mem_cons.1 hx with rfl | hx
  · exact hP'
  · exact hB.all x hx
 ·
  rcases List.mem_cons.1 hx with rfl | hx
  · exact ⟨(hX g hxg).2, fun _ => Nat.le_trans h.gb.size (hX g hxg).1⟩
  · exact hB.bd x hx g hxg
 rw [List.pairwise_cons]
 refine ⟨fun x hx _ g hg1 hg2 => ?_, hB.dis⟩
 have h1 := (hX g hg1).1
 rcases List.mem_cons.1 hx with rfl | hx
 ·
  have := (h.bd r (.head _) g (hX1 g hg2)).1
  omega
 have := (h.bd x (.tail _ hx) g hg2).1
 omega
theorem Bun.perm {L' : List Res} (h : Bun w0 L A) (hp : L.Perm L') : Bun w0 L' A :=
 ⟨fun r hr => h.all r (hp.mem_iff.2 hr), fun r hr => h.bd r (hp.mem_iff.2 hr), (hp.pairwise_iff (fun h1 h2 g hg hg' => h1 h2.symm g hg' hg)).1 h.dis, h.gb⟩
theorem Bun.sub {L' : List Res} (h : Bun w0 L A) (hp : L'.Sublist L) : Bun w0 L' A := ⟨fun r hr => h.all r (hp.subset hr), fun r hr => h.bd r (hp.subset hr), h.dis.sublist hp, h.gb⟩
theorem perm_front {α : Type} : ∀ (l : List α) (i : Nat) (x : α), l[i]? = some x -> l.Perm (x :: l.eraseIdx i)
 | [], i, x, h => by simp at h
 | y :: l, 0, x, h => by simp at h; subst h; exact List.Perm.refl _
 | y :: l, i + 1, x, h => by
  have h1 := perm_front l i x (by simpa using h)
  exact (List.Perm.cons y h1).trans (List.Perm.swap x y _)
theorem Bun.front (i : Nat) {r : Res} {L' : List Res} (h : Bun w0 L A) (hr : L[i]? = some r) (hL : L.eraseIdx i = L') : Bun w0 (r :: L') A := hL ▸ h.perm (perm_front L i r hr)
theorem Bun.drop (i : Nat) {L' : List Res} (h : Bun w0 L A) (hL : L.eraseIdx i = L') : Bun w0 L' A := hL ▸ h.sub (List.eraseIdx_sublist _ _)
theorem Bun.at (i : Nat) {r : Res} (h : Bun w0 L A) (hr : L[i]? = some r) : r.P A := h.all r (List.mem_of_getElem? hr)
theorem Bun.ltAt (i : Nat) {r : Res} (h : Bun w0 L A) (hr : L[i]? = some r) (g : Nat) (hx : r.X g) : g < A.heap.size /\ (r.mine = true -> w0.heap.size <= g) := h.bd r (List.mem_of_getElem? hr) g hx
theorem Bun.neAt (i j : Nat) {r r' : Res} (h : Bun w0 L A) (hr : L[i]? = some r) (hr' : L[j]? = some r') (hij : i ≠ j) (hm : r.mine = true ∨ r'.mine = true) (g : Nat) (hx : r.X g) : ¬ r'.X g := by
 have key : ∀ (i j : Nat) (r r' : Res), L[i]? = some r -> L[j]? = some r' -> i < j -> (r.mine = true ∨ r'.mine = true) -> ∀ g, r.X g -> ¬ r'.X g := fun i j r r' hr hr' hlt hm => by
  have hi := List.getElem?_eq_some_iff.1 hr
  have hj := List.getElem?_eq_some_iff.1 hr'
  have := List.pairwise_iff_getElem.1 h.dis i j hi.1 hj.1 hlt
  rw [hi.2, hj.2] at this
  exact this hm
 rcases Nat.lt_or_gt_of_ne hij with h1 | h1
 · exact key i j r r' hr hr' h1 hm g hx
 · exact fun hx' => key j i r' r hr' hr h1 hm.symm g hx' hx
theorem Bun.pick (is : List Nat) {L' : List Res} (h : Bun w0 L A) (hn : is.Nodup) (hL : is.map (fun i => L[i]?) = L'.map some) : Bun w0 L' A := by
 have hlen : is.length = L'.length := by have := congrArg List.length hL; simpa using this
 have g : ∀ k (hk : k < L'.length), L[is[k]'(by omega)]? = some L'[k] := fun k hk => by
  have h1 : (is.map (fun i => L[i]?))[k]? = (L'.map some)[k]? := by rw [hL]
  rw [List.getElem?_map, List.getElem?_map, List.getElem?_eq_getElem (by omega : k < is.length), List.getElem?_eq_getElem hk] at h1
  simpa using h1
 have m : ∀ r ∈ L', ∃ i, L[i]? = some r := fun r hr => by
  obtain ⟨k, hk, rfl⟩ := List.getElem_of_mem hr
  exact ⟨_, g k hk⟩
 refine ⟨fun r hr => ?_, fun r hr => ?_, ?_, h.gb⟩
 ·
  obtain ⟨i, hi⟩ := m r hr
  exact h.all r (List.mem_of_getElem? hi)
 ·
  obtain ⟨i, hi⟩ := m r hr
  exact h.bd r (List.mem_of_getElem? hi)
 rw [List.pairwise_iff_getElem]
 intro i j hi hj hij hm gg hx
 have hne : is[i]'(by omega) ≠ is[j]'(by omega) := List.pairwise_iff_getElem.1 hn i j (by omega) (by omega) hij
 exact h.neAt _ _ (g i hi) (g j hj) hne hm gg hx
/-! the kinds -/
theorem Bun.new (h : Bun w0 L A) (t : TypeId) (cs : Array Value) {n : Nat} (hn : A.heap.size = n) : Bun w0 (rbox n t cs :: L) (A.alloc (.cells cs t)) := by
 subst hn
 refine h.add (rbox _ t cs) (gb_alloc (gb_refl _ _) _) (Bk.new A t cs) (fun g e => ?_)
 cases e
 simp
theorem Bun.set {g : Nat} {t : TypeId} {cs : Array Value} (h : Bun w0 (rbox g t cs :: L) A) (i : Nat) (u : Value) : Bun w0 (rbox g t (cs.setIfInBounds i u) :: L) (A.setCell ⟨g, i, none⟩ u) := by
 have hb : Bk A g t cs := h.all _ (.head _)
 refine h.wr rfl (gb_setCell (gb_refl A (some g)) (p := ⟨g, i, none⟩) (.inl rfl) u) (fun g' e => by cases e; rfl) (Bk.set hb i u) (fun g' e => ⟨.inl e, ?_⟩)
 cases e
 simpa [World.setCell] using hb.lt
theorem Bun.seed {s : Nat} (h : Bun w0 (rseed s :: L) A) (hg : A.grownBy B (some s)) (hs : SeedAt B s) : Bun w0 (rseed s :: L) B :=
 h.wr rfl hg (fun _ e => by cases e; rfl) hs fun g e => ⟨.inl e, by cases e; exact hs.lt⟩
theorem Bun.seedAdd {s : Nat} (r' : Res) (h : Bun w0 (rseed s :: L) A) (hg : A.grownBy B (some s)) (hs : SeedAt B s) (hP : r'.P B) (hX : ∀ g, r'.X g -> A.heap.size <= g /\ g < B.heap.size) : Bun w0 (r' :: rseed s :: L) B :=
 h.wradd r' rfl hg (fun _ e => by cases e; rfl) hs (fun _ e => e) hP hX
theorem Bun.app {α : Type} {enc : α -> List Value} {e : TypeId} {sz base base' : Nat} {v : Value} {l ys : List α} {H N g cap : Nat} (h : Bun w0 (rown enc e sz base v l :: L) A) (hp : AppPost enc e sz base' A v l ys H N g cap B) (hH : A.heap.size <= H) :
  Bun w0 (rown enc e sz base' (.slice (some ⟨g, 0, none⟩) N cap) (l ++ ys) :: L) B :=
 h.wr rfl hp.gb (fun k e => e) hp.own fun k e => ⟨by
  have e' : g = k := by simpa [rown, Value.ownBlock] using e
  subst e'
  rcases hp.at_ with h1 | h1
  · exact .inl h1
  · exact .inr (by omega), by
  have e' : g = k := by simpa [rown, Value.ownBlock] using e
  subst e'
  exact hp.lt⟩
end
end Go.Proofs.Ytlefmbjipdlcfaa
/- A cell of a row of the call's own is written. -/
namespace Go.Proofs.Ytlefmbjipdlcfaa
open Go.RowKit
section
variable {α : Type} {enc : α -> List Value} {e : TypeId} {sz base : Nat}
theorem flat_set (hlen : ∀ x, (enc x).length = sz) : ∀ (l : List α) (i : Nat) (x y : α) (j : Nat) (u : Value), l[i]? = some x -> j < sz -> enc y = (enc x).set j u -> (l.flatMap enc).set (i * sz + j) u = (l.set i y).flatMap enc := by
 intro l
 induction l with
 | nil => intro i x y j u h; simp at h
 | cons z l ih =>
  intro i x y j u h hj hy
  cases i with
  | zero =>
   simp at h
   subst h
   rw [List.set_cons_zero, List.flatMap_cons, List.flatMap_cons, hy, Nat.zero_mul, Nat.zero_add, List.set_append_left _ _ (by rw [hlen]; exact hj)]
  | succ i =>
   rw [List.set_cons_succ, List.flatMap_cons, List.flatMap_cons, List.set_append_right _ _ (by rw [hlen, Nat.succ_mul]; omega), hlen]
   rw [show (i + 1) * sz + j - sz = i * sz + j by rw [Nat.succ_mul]; omega]
   rw [ih i x y j u (by simpa using h) hj hy]
theorem Own.set {w : World} {g n cap : Nat} {l : List α} (hlen : ∀ x, (enc x).length = sz) (h : Own enc e sz base w (.slice (some ⟨g, 0, none⟩) n cap) l) {i j : Nat} {x y : α} {u : Value} (hx : l[i]? = some x) (hj : j < sz) (hy : enc y = (enc x).set j u) :
  Own enc e sz base (w.setCell ⟨g, i * sz + j, none⟩ u) (.slice (some ⟨g, 0, none⟩) n cap) (l.set i y) := by
 obtain ⟨h0, h1⟩ := h
 have hil := (List.getElem?_eq_some_iff.1 hx).1
 rcases h1 with ⟨h1, _⟩ | ⟨g', cap', cur, hv, hb, hh, hnc, hcm, hcs, htk⟩
 · cases h1
 injection hv with e1 e2 e3
 injection e1 with e1
 injection e1 with e1
 subst e1 e2 e3
 refine ⟨?_, .inr ⟨g, cap, cur.setIfInBounds (i * sz + j) u, by simp, hb, ?_, by simpa using hnc, hcm, by simpa using hcs, ?_⟩⟩
 · rw [flat_len hlen]
 · simp [World.setCell, Array.getElem?_modify, hh]
 rw [List.length_set, ← flat_set hlen l i x y j u hx hj hy, ← htk]
 rw [Array.toList_setIfInBounds, List.take_set]
end
end Go.Proofs.Ytlefmbjipdlcfaa
/- append onto an empty literal: a copy of a slice that reads as a list. -/
namespace Go.Proofs.Ytlefmbjipdlcfaa
open Go.RowKit
section
variable {α : Type} {P : Program} {t e : TypeId} {sz bytes : Nat} {enc : α -> List Value} (w : World)
end
end Go.Proofs.Ytlefmbjipdlcfaa
/- append onto an empty literal, as a resource turns. -/
namespace Go.Proofs.Ytlefmbjipdlcfaa
open Go.RowKit
section
variable {α : Type} {P : Program} {t e : TypeId} {sz bytes : Nat} {enc : α -> List Value}
end
end Go.Proofs.Ytlefmbjipdlcfaa
/- What a walk has in hand that was handed a seed: resources, in the world at hand. -/
namespace Go.Proofs.Ytlefmbjipdlcfaa
open Go.RowKit
structure Bus (w0 : World) (sd : Nat) (L : List Res) (w : World) : Prop where
 all : ∀ r ∈ L, r.P w
 bd : ∀ r ∈ L, ∀ g, r.X g -> g < w.heap.size /\ (r.mine = true -> w0.heap.size <= g ∨ g = sd)
 dis : L.Pairwise fun a b => (a.mine = true ∨ b.mine = true) -> ∀ g, a.X g -> ¬ b.X g
 gb : w0.grownBy w (some sd)
section
variable {w0 A B : World} {L : List Res} {sd : Nat}
theorem Bus.nil (w : World) : Bus w sd [] w := ⟨fun _ h => (by cases h), fun _ h => (by cases h), .nil, gb_refl _ _⟩
theorem Bus.gn (h : Bus w0 sd L A) (hg : A.grownBy B none) : Bus w0 sd L B :=
 ⟨fun r hr => r.st A B none hg (fun _ e => by cases e) (h.all r hr), fun r hr g hx => ⟨Nat.lt_of_lt_of_le (h.bd r hr g hx).1 hg.size, (h.bd r hr g hx).2⟩, h.dis, gb_none h.gb hg⟩
theorem Bus.drew (h : Bus w0 sd L A) : Bus w0 sd L A.drew := h.gn (gb_drew (gb_refl _ _))
theorem Bus.drewN (h : Bus w0 sd L A) (n : Nat) : Bus w0 sd L (A.drewN n) := h.gn (gb_drewN (gb_refl _ _) n)
theorem Bus.alloc (h : Bus w0 sd L A) (o : Obj) : Bus w0 sd L (A.alloc o) := h.gn (gb_alloc (gb_refl _ _) o)
theorem Bus.wr {r r' : Res} {q : Option Nat} (h : Bus w0 sd (r :: L) A) (hm : r.mine = true) (hg : A.grownBy B q) (hq : ∀ g, q = some g -> r.X g) (hP : r'.P B)
  (hX : ∀ g, r'.X g -> (r.X g ∨ A.heap.size <= g) /\ g < B.heap.size) : Bus w0 sd (r' :: L) B := by
 have hd := h.dis
 rw [List.pairwise_cons] at hd
 refine ⟨fun x hx => ?_, fun x hx g hxg => ?_, ?_, gb_trans' h.gb hg fun g e => ((h.bd r (.head _) g (hq g e)).2 hm).symm.imp (fun h => by rw [h]) id⟩
 ·
  rcases List.mem_cons.1 hx with rfl | hx
  · exact hP
  · exact x.st A B q hg (fun g e => hd.1 x hx (.inl hm) g (hq g e)) (h.all x (.tail _ hx))
 ·
  rcases List.mem_cons.1 hx with rfl | hx
  ·
   refine ⟨(hX g hxg).2, fun _ => ?_⟩
   rcases (hX g hxg).1 with h1 | h1
   · exact (h.bd r (.head _) g h1).2 hm
   · exact .inl (Nat.le_trans h.gb.size h1)
  · exact ⟨Nat.lt_of_lt_of_le (h.bd x (.tail _ hx) g hxg).1 hg.size, (h.bd x (.tail _ hx) g hxg).2⟩
 rw [List.pairwise_cons]
 refine ⟨fun x hx _ g hg1 hg2 => ?_, hd.2⟩
 rcases (hX g hg1).1 with h1 | h1
 · exact hd.1 x hx (.inl hm) g h1 hg2
 have := (h.bd x (.tail _ hx) g hg2).1
 omega
theorem Bus.add (r' : Res) (h : Bus w0 sd L A) (hg : A.grownBy B none) (hP : r'.P B) (hX : ∀ g, r'.X g -> A.heap.size <= g /\ g < B.heap.size) : Bus w0 sd (r' :: L) B := by
 have hB := h.gn hg
 refine ⟨fun x hx => ?_, fun x hx g hxg => ?_, ?_, hB.gb⟩
 ·
  rcases List.mem_cons.1 hx with rfl | hx
  · exact hP
  · exact hB.all x hx
 ·
  rcases List.mem_cons.1 hx with rfl | hx
  · exact ⟨(hX g hxg).2, fun _ => .inl (Nat.le_trans h.gb.size (hX g hxg).1)⟩
  · exact hB.bd x hx g hxg
 rw [List.pairwise_cons]
 refine ⟨fun x hx _ g hg1 hg2 => ?_, h.dis⟩
 have := (h.bd x hx g hg2).1
 have := (hX g hg1).1
 omega
theorem Bus.wradd {r r1 : Res} (r' : Res) {q : Option Nat} (h : Bus w0 sd (r :: L) A) (hm : r.mine = true) (hg : A.grownBy B q) (hq : ∀ g, q = some g -> r.X g) (hP : r1.P B) (hX1 : ∀ g, r1.X g -> r.X g)
  (hP' : r'.P B) (hX : ∀ g, r'.X g -> A.heap.size <= g /\ g < B.heap.size) : Bus w0 sd (r' :: r1 :: L) B := by
 have hB : Bus w0 sd (r1 :: L) B := h.wr hm hg hq hP fun g hx => ⟨.inl (hX1 g hx), Nat.lt_of_lt_of_le (h.bd r (.head _) g (hX1 g hx)).1 hg.size⟩
 refine ⟨fun x hx => ?_, fun x hx g hxg => ?_, ?_, hB.gb⟩
 ·
  rcases List.mem_cons.1 hx with rfl | hx
  · exact hP'
  · exact hB.all x hx
 ·
  rcases List.mem_cons.1 hx with rfl | hx
  · exact ⟨(hX g hxg).2, fun _ => .inl (Nat.le_trans h.gb.size (hX g hxg).1)⟩
  · exact hB.bd x hx g hxg
 rw [List.pairwise_cons]
 refine ⟨fun x hx _ g hg1 hg2 => ?_, hB.dis⟩
 have h1 := (hX g hg1).1
 rcases List.mem_cons.1 hx with rfl | hx
 ·
  have := (h.bd r (.head _) g (hX1 g hg2)).1
  omega
 have := (h.bd x (.tail _ hx) g hg2).1
 omega
theorem Bus.perm {L' : List Res} (h : Bus w0 sd L A) (hp : L.Perm L') : Bus w0 sd L' A :=
 ⟨fun r hr => h.all r (hp.mem_iff.2 hr), fun r hr => h.bd r (hp.mem_iff.2 hr), (hp.pairwise_iff (fun h1 h2 g hg hg' => h1 h2.symm g hg' hg)).1 h.dis, h.gb⟩
theorem Bus.sub {L' : List Res} (h : Bus w0 sd L A) (hp : L'.Sublist L) : Bus w0 sd L' A := ⟨fun r hr => h.all r (hp.subset hr), fun r hr => h.bd r (hp.subset hr), h.dis.sublist hp, h.gb⟩
theorem perm_front' {α : Type} : ∀ (l : List α) (i : Nat) (x : α), l[i]? = some x -> l.Perm (x :: l.eraseIdx i)
 | [], i, x, h => by simp at h
 | y :: l, 0, x, h => by simp at h; subst h; exact List.Perm.refl _
 | y :: l, i + 1, x, h => by
  have h1 := perm_front' l i x (by simpa using h)
  exact (List.Perm.cons y h1).trans (List.Perm.swap x y _)
theorem Bus.front (i : Nat) {r : Res} {L' : List Res} (h : Bus w0 sd L A) (hr : L[i]? = some r) (hL : L.eraseIdx i = L') : Bus w0 sd (r :: L') A := hL ▸ h.perm (perm_front' L i r hr)
theorem Bus.drop (i : Nat) {L' : List Res} (h : Bus w0 sd L A) (hL : L.eraseIdx i = L') : Bus w0 sd L' A := hL ▸ h.sub (List.eraseIdx_sublist _ _)
theorem Bus.at (i : Nat) {r : Res} (h : Bus w0 sd L A) (hr : L[i]? = some r) : r.P A := h.all r (List.mem_of_getElem? hr)
theorem Bus.ltAt (i : Nat) {r : Res} (h : Bus w0 sd L A) (hr : L[i]? = some r) (g : Nat) (hx : r.X g) : g < A.heap.size /\ (r.mine = true -> w0.heap.size <= g ∨ g = sd) := h.bd r (List.mem_of_getElem? hr) g hx
theorem Bus.neAt (i j : Nat) {r r' : Res} (h : Bus w0 sd L A) (hr : L[i]? = some r) (hr' : L[j]? = some r') (hij : i ≠ j) (hm : r.mine = true ∨ r'.mine = true) (g : Nat) (hx : r.X g) : ¬ r'.X g := by
 have key : ∀ (i j : Nat) (r r' : Res), L[i]? = some r -> L[j]? = some r' -> i < j -> (r.mine = true ∨ r'.mine = true) -> ∀ g, r.X g -> ¬ r'.X g := fun i j r r' hr hr' hlt hm => by
  have hi := List.getElem?_eq_some_iff.1 hr
  have hj := List.getElem?_eq_some_iff.1 hr'
  have := List.pairwise_iff_getElem.1 h.dis i j hi.1 hj.1 hlt
  rw [hi.2, hj.2] at this
  exact this hm
 rcases Nat.lt_or_gt_of_ne hij with h1 | h1
 · exact key i j r r' hr hr' h1 hm g hx
 · exact fun hx' => key j i r' r hr' hr h1 hm.symm g hx' hx
theorem Bus.pick (is : List Nat) {L' : List Res} (h : Bus w0 sd L A) (hn : is.Nodup) (hL : is.map (fun i => L[i]?) = L'.map some) : Bus w0 sd L' A := by
 have hlen : is.length = L'.length := by have := congrArg List.length hL; simpa using this
 have g : ∀ k (hk : k < L'.length), L[is[k]'(by omega)]? = some L'[k] := fun k hk => by
  have h1 : (is.map (fun i => L[i]?))[k]? = (L'.map some)[k]? := by rw [hL]
  rw [List.getElem?_map, List.getElem?_map, List.getElem?_eq_getElem (by omega : k < is.length), List.getElem?_eq_getElem hk] at h1
  simpa using h1
 have m : ∀ r ∈ L', ∃ i, L[i]? = some r := fun r hr => by
  obtain ⟨k, hk, rfl⟩ := List.getElem_of_mem hr
  exact ⟨_, g k hk⟩
 refine ⟨fun r hr => ?_, fun r hr => ?_, ?_, h.gb⟩
 ·
  obtain ⟨i, hi⟩ := m r hr
  exact h.all r (List.mem_of_getElem? hi)
 ·
  obtain ⟨i, hi⟩ := m r hr
  exact h.bd r (List.mem_of_getElem? hi)
 rw [List.pairwise_iff_getElem]
 intro i j hi hj hij hm gg hx
 have hne : is[i]'(by omega) ≠ is[j]'(by omega) := List.pairwise_iff_getElem.1 hn i j (by omega) (by omega) hij
 exact h.neAt _ _ (g i hi) (g j hj) hne hm gg hx
/-! the kinds -/
theorem Bus.new (h : Bus w0 sd L A) (t : TypeId) (cs : Array Value) {n : Nat} (hn : A.heap.size = n) : Bus w0 sd (rbox n t cs :: L) (A.alloc (.cells cs t)) := by
 subst hn
 refine h.add (rbox _ t cs) (gb_alloc (gb_refl _ _) _) (Bk.new A t cs) (fun g e => ?_)
 cases e
 simp
theorem Bus.set {g : Nat} {t : TypeId} {cs : Array Value} (h : Bus w0 sd (rbox g t cs :: L) A) (i : Nat) (u : Value) : Bus w0 sd (rbox g t (cs.setIfInBounds i u) :: L) (A.setCell ⟨g, i, none⟩ u) := by
 have hb : Bk A g t cs := h.all _ (.head _)
 refine h.wr rfl (gb_setCell (gb_refl A (some g)) (p := ⟨g, i, none⟩) (.inl rfl) u) (fun g' e => by cases e; rfl) (Bk.set hb i u) (fun g' e => ⟨.inl e, ?_⟩)
 cases e
 simpa [World.setCell] using hb.lt
theorem Bus.seed {s : Nat} (h : Bus w0 sd (rseed s :: L) A) (hg : A.grownBy B (some s)) (hs : SeedAt B s) : Bus w0 sd (rseed s :: L) B :=
 h.wr rfl hg (fun _ e => by cases e; rfl) hs fun g e => ⟨.inl e, by cases e; exact hs.lt⟩
theorem Bus.seedAdd {s : Nat} (r' : Res) (h : Bus w0 sd (rseed s :: L) A) (hg : A.grownBy B (some s)) (hs : SeedAt B s) (hP : r'.P B) (hX : ∀ g, r'.X g -> A.heap.size <= g /\ g < B.heap.size) : Bus w0 sd (r' :: rseed s :: L) B :=
 h.wradd r' rfl hg (fun _ e => by cases e; rfl) hs (fun _ e => e) hP hX
theorem Bus.ofSeed (h : SeedAt A sd) : Bus A sd [rseed sd] A :=
 ⟨fun r hr => (by rw [List.mem_singleton] at hr; subst hr; exact h), fun r hr g hx => (by rw [List.mem_singleton] at hr; subst hr; cases hx; exact ⟨h.lt, fun _ => .inr rfl⟩), List.pairwise_singleton _ _, gb_refl _ _⟩
theorem Bus.app {α : Type} {enc : α -> List Value} {e : TypeId} {sz base base' : Nat} {v : Value} {l ys : List α} {H N g cap : Nat} (h : Bus w0 sd (rown enc e sz base v l :: L) A) (hp : AppPost enc e sz base' A v l ys H N g cap B) (hH : A.heap.size <= H) :
  Bus w0 sd (rown enc e sz base' (.slice (some ⟨g, 0, none⟩) N cap) (l ++ ys) :: L) B :=
 h.wr rfl hp.gb (fun k e => e) hp.own fun k e => ⟨by
  have e' : g = k := by simpa [rown, Value.ownBlock] using e
  subst e'
  rcases hp.at_ with h1 | h1
  · exact .inl h1
  · exact .inr (by omega), by
  have e' : g = k := by simpa [rown, Value.ownBlock] using e
  subst e'
  exact hp.lt⟩
end
end Go.Proofs.Ytlefmbjipdlcfaa
/- A seed beside slices; a row of one's own read as a slice. -/
namespace Go.Proofs.Ytlefmbjipdlcfaa
open Go.RowKit
def OnlyS (sd : Nat) (L : List Res) : Prop := ∀ r ∈ L, r.mine = true -> ∀ g, r.X g -> g = sd
theorem Bus.sl0 {α : Type} {enc : α -> List Value} {sz lo hi sd : Nat} {v : Value} {l : List α} {w0 : World} {L : List Res} (h : Bus w0 sd L w0) (hs : Sl enc sz lo hi w0 v l) (h2 : hi <= w0.heap.size) (hx : ¬ (lo <= sd /\ sd < hi)) (hm : OnlyS sd L) : Bus w0 sd (rsl enc sz lo hi v l :: L) w0 := by
 refine ⟨fun r hr => ?_, fun r hr g hg => ?_, ?_, h.gb⟩
 ·
  rcases List.mem_cons.1 hr with rfl | hr
  · exact hs
  · exact h.all r hr
 ·
  rcases List.mem_cons.1 hr with rfl | hr
  · exact ⟨Nat.lt_of_lt_of_le hg.2 h2, fun e => by cases e⟩
  · exact h.bd r hr g hg
 rw [List.pairwise_cons]
 refine ⟨fun x hx' hmm g hg1 hg2 => ?_, h.dis⟩
 rcases hmm with hmm | hmm
 · cases hmm
 obtain rfl := hm x hx' hmm g hg2
 exact hx hg1
end Go.Proofs.Ytlefmbjipdlcfaa
/- A range over a function whose elements come by number, each with a block of its own: the iterator's contract and the loop's law, told for this claim. -/
namespace Go.Proofs.Ytlefmbjipdlcfaa
open Go.RowKit Go.Shelf
end Go.Proofs.Ytlefmbjipdlcfaa
/- The marks that ranges over a function leave among the deferred calls: kept in a loop, shut at the return. -/
namespace Go.Proofs.Ytlefmbjipdlcfaa
open Go.RowKit Go.Shelf
def Marks (B : Nat) (W : World) (ds : List Deferred) : Prop := ∃ Ds : List Nat, ds = Ds.map (fun D => { target := .collected D, args := #[] }) /\ Ds.Nodup /\ ∀ D ∈ Ds, B <= D /\ W.heap[D]? = some (.deferred (some []))
theorem Marks.nil (B : Nat) (W : World) : Marks B W [] := ⟨[], rfl, List.nodup_nil, fun _ h => by cases h⟩
theorem Marks.one {B D : Nat} {W : World} (hB : B <= D) (hK : W.heap[D]? = some (.deferred (some []))) : Marks B W [{ target := .collected D, args := #[] }] :=
 ⟨[D], rfl, by simp, fun x h => by obtain rfl := List.mem_singleton.1 h; exact ⟨hB, hK⟩⟩
theorem Marks.cons {B D : Nat} {A W : World} {ds : List Deferred} (h : Marks B A ds) (hg : A.grownBy W none) (hB : B <= D) (hD : A.heap.size <= D) (hK : W.heap[D]? = some (.deferred (some []))) : Marks B W ({ target := .collected D, args := #[] } :: ds) := by
 obtain ⟨Ds, rfl, h1, h2⟩ := h
 have hlt : ∀ x ∈ Ds, x < A.heap.size := fun x hx => (Array.getElem?_eq_some_iff.1 (h2 x hx).2).1
 refine ⟨D :: Ds, rfl, List.nodup_cons.2 ⟨fun hm => by have := hlt D hm; omega, h1⟩, fun x hx => ?_⟩
 rcases List.mem_cons.1 hx with rfl | hx
 · exact ⟨hB, hK⟩
 · exact ⟨(h2 x hx).1, (hg.block x (hlt x hx) (by simp)).trans (h2 x hx).2⟩
theorem Marks.keep {B : Nat} {A W : World} {ds : List Deferred} (h : Marks B A ds) (hk : ∀ D : Nat, A.heap[D]? = some (.deferred (some [])) -> W.heap[D]? = some (.deferred (some []))) : Marks B W ds := by
 obtain ⟨Ds, rfl, h1, h2⟩ := h
 exact ⟨Ds, rfl, h1, fun x hx => ⟨(h2 x hx).1, hk x (h2 x hx).2⟩⟩
theorem Marks.set {B : Nat} {A : World} {ds : List Deferred} {g : Nat} {t : TypeId} {cs : Array Value} (h : Marks B A ds) (hg : Bk A g t cs) (i : Nat) (u : Value) : Marks B (A.setCell ⟨g, i, none⟩ u) ds :=
 h.keep fun D hD => (Below.heap_setCell A ⟨g, i, none⟩ u D (fun e => by
  have e' : D = g := e
  subst e'
  unfold Bk at hg
  rw [hg] at hD
  cases hD)).trans hD
theorem Marks.alloc {B : Nat} {A : World} {ds : List Deferred} (h : Marks B A ds) (o : Obj) : Marks B (A.alloc o) ds :=
 h.keep fun D hD => (Below.heap_alloc A o D (Array.getElem?_eq_some_iff.1 hD).1).trans hD
theorem Marks.own {α : Type} {enc : α -> List Value} {e : TypeId} {sz base : Nat} {B : Nat} {A W : World} {ds : List Deferred} {v : Value} {l : List α} (h : Marks B A ds) (ho : Own enc e sz base A v l) (hg : A.grownBy W v.ownBlock) : Marks B W ds :=
 h.keep fun D hD => (hg.block D (Array.getElem?_eq_some_iff.1 hD).1 (fun e => by
  rcases ho.2 with ⟨rfl, _⟩ | ⟨g, cap, cur, rfl, _, hh, _⟩
  · cases e
  injection e with e
  subst e
  rw [hh] at hD
  cases hD)).trans hD
theorem Own.base {α : Type} {enc : α -> List Value} {e : TypeId} {sz base base' : Nat} {w : World} {v : Value} {l : List α} (h : Own enc e sz base w v l) (hb : base' <= base) : Own enc e sz base' w v l := by
 obtain ⟨h1, h2⟩ := h
 refine ⟨h1, ?_⟩
 rcases h2 with h2 | ⟨g, cap, cur, hv, hbg, hg, h3⟩
 · exact .inl h2
 · exact .inr ⟨g, cap, cur, hv, by omega, hg, h3⟩
theorem Bk.newAt (w : World) (t : TypeId) (cs : Array Value) {n : Nat} (h : w.heap.size = n) : Bk (w.alloc (.cells cs t)) n t cs := h ▸ Bk.new w t cs
structure Shut (B : Nat) (w w' : World) : Prop where
 os : w'.os = w.os
 tape : w'.tape = w.tape
 output : w'.output = w.output
 size : w'.heap.size = w.heap.size
 block : ∀ g, w.heap[g]? ≠ some (.deferred (some [])) ∨ g < B -> w'.heap[g]? = w.heap[g]?
theorem Shut.gb {B : Nat} {a w w' : World} (h : Shut B w w') {r : Option Nat} (hg : a.grownBy w r) (hB : a.heap.size <= B) : a.grownBy w' r :=
 ⟨h.os.trans hg.os, h.tape.trans hg.tape, h.output.trans hg.output, by rw [h.size]; exact hg.size, fun i hi hne => (h.block i (.inr (by omega))).trans (hg.block i hi hne)⟩
theorem Shut.own {α : Type} {enc : α -> List Value} {e : TypeId} {sz base B : Nat} {w w' : World} {v : Value} {l : List α} (hs : Shut B w w') (h : Own enc e sz base w v l) : Own enc e sz base w' v l := by
 obtain ⟨h1, h2⟩ := h
 refine ⟨h1, ?_⟩
 rcases h2 with h2 | ⟨g, cap, cur, hv, hb, hg, h3⟩
 · exact .inl h2
 · exact .inr ⟨g, cap, cur, hv, hb, (hs.block g (.inl (by rw [hg]; simp))).trans hg, h3⟩
def slot (T : Array Value) (i : Nat) : Value := T.getD i undef
theorem wp_loopS {P : Program} {c : Code} {Q : Exit -> Act -> World -> Prop} {a : Act} {w : World} (n : Nat) (hn : a.tmps.size = n) (I : (Nat -> Value) -> List Deferred -> World -> Prop) (μ : (Nat -> Value) -> World -> Nat)
  (h0 : I (slot a.tmps) a.defers w)
  (round : ∀ t ds wr, I t ds wr -> c.wp P (Exit.then (fun a' w' => a'.tmps.size = n /\ I (slot a'.tmps) a'.defers w' /\ μ (slot a'.tmps) w' < μ t wr) Q) { tmps := ((List.range n).map t).toArray, defers := ds } wr) :
  (Code.loop c).wp P Q a w := by
 refine wp_loop (fun a' wr => a'.tmps.size = n /\ I (slot a'.tmps) a'.defers wr) (fun a' wr => μ (slot a'.tmps) wr) ⟨hn, h0⟩ ?_
 rintro ⟨T, ds⟩ wr ⟨hT, hI⟩
 simp only at hT
 have e : T = ((List.range n).map (slot T)).toArray := by
  refine Array.ext (by simp [hT]) fun i h1 h2 => ?_
  simp [slot, h1]
 have hr := round (slot T) ds wr hI
 rw [← e] at hr
 refine wp_mono hr fun e a' w' h => ?_
 cases e <;> first | exact ⟨⟨h.1, h.2.1⟩, h.2.2⟩ | exact h
end Go.Proofs.Ytlefmbjipdlcfaa
/- The ways out of a block meet again. -/
namespace Go.Proofs.Ytlefmbjipdlcfaa
open Go.RowKit
end Go.Proofs.Ytlefmbjipdlcfaa
/- What walks that ax.py prints lean on: tests, elements of slices, slices that were handed in. -/
namespace Go.Proofs.Ytlefmbjipdlcfaa
open Go.RowKit
theorem beq_t {a b : Int} (h : a = b) : (a == b) = true := by rw [beq_iff_eq]; exact h
theorem beq_f {a b : Int} (h : ¬ a = b) : (a == b) = false := by rw [beq_eq_false_iff_ne]; exact h
theorem bne_f {a b : Int} (h : a = b) : (a != b) = false := by rw [bne, beq_t h]; rfl
theorem bne_t {a b : Int} (h : ¬ a = b) : (a != b) = true := by rw [bne, beq_f h]; rfl
theorem dec_f {p : Prop} [Decidable p] (h : ¬ p) : decide p = false := decide_eq_false h
theorem Sl.cells {α : Type} {enc : α -> List Value} {sz lo hi n c x ox : Nat} {w : World} {l : List α} (h : Sl enc sz lo hi w (.slice (some ⟨x, ox, none⟩) n c) l) {i : Nat} {z : α} (hz : l[i]? = some z) :
  ∀ j u, (enc z)[j]? = some u -> w.cell? ⟨x, ox + i * sz + j, none⟩ = some u := by
 have hi : i < l.length := (List.getElem?_eq_some_iff.1 hz).1
 obtain ⟨x', ox', c', ev, _, _, H⟩ := h.form (by omega)
 injection ev with e1 _ e2
 injection e1 with e1
 injection e1 with e3 e4
 subst e3 e4
 have := H i hi
 rw [(List.getElem?_eq_some_iff.1 hz).2] at this
 exact this
theorem Sl.addr {α : Type} {enc : α -> List Value} {sz lo hi n c : Nat} {a : Option Addr} {w : World} {l : List α} (h : Sl enc sz lo hi w (.slice a n c) l) (h0 : 0 < l.length) : ∃ x ox, a = some ⟨x, ox, none⟩ := by
 obtain ⟨x, ox, c', ev, _⟩ := h.form h0
 injection ev with e1 _ _
 exact ⟨x, ox, e1⟩
theorem Bun.name {w0 A : World} {L : List Res} (h : Bun w0 L A) : ∃ x, A = x /\ Bun w0 L x /\ A.heap.size <= x.heap.size := ⟨A, rfl, h, Nat.le_refl _⟩
theorem Bus.name {w0 A : World} {sd : Nat} {L : List Res} (h : Bus w0 sd L A) : ∃ x, A = x /\ Bus w0 sd L x /\ A.heap.size <= x.heap.size := ⟨A, rfl, h, Nat.le_refl _⟩
theorem drop_cons {α : Type} {l : List α} {k : Nat} {z : α} (h : l[k]? = some z) : l.drop k = z :: l.drop (k + 1) := by
 obtain ⟨h1, rfl⟩ := List.getElem?_eq_some_iff.1 h
 exact List.drop_eq_getElem_cons h1
theorem Bun.sl0 {α : Type} {enc : α -> List Value} {sz lo hi : Nat} {v : Value} {l : List α} {w0 : World} {L : List Res} (h : Bun w0 L w0) (hs : Sl enc sz lo hi w0 v l) (h2 : hi <= w0.heap.size) (hm : L.all (fun r => !r.mine) = true) : Bun w0 (rsl enc sz lo hi v l :: L) w0 := by
 have hm' : ∀ r ∈ L, r.mine = false := fun r hr => by have := List.all_eq_true.1 hm r hr; simpa using this
 refine ⟨fun r hr => ?_, fun r hr g hx => ?_, ?_, h.gb⟩
 ·
  rcases List.mem_cons.1 hr with rfl | hr
  · exact hs
  · exact h.all r hr
 ·
  rcases List.mem_cons.1 hr with rfl | hr
  · exact ⟨Nat.lt_of_lt_of_le hx.2 h2, fun e => by cases e⟩
  · exact h.bd r hr g hx
 rw [List.pairwise_cons]
 exact ⟨(fun x hx hmm => by
  rw [hm' x hx] at hmm
  rcases hmm with h1 | h1 <;> cases h1), h.dis⟩
def prevC {α : Type} (l : List α) (k : Nat) : Option α := if k = 0 then none else l[k - 1]?
theorem prevC_succ {α : Type} (l : List α) (k : Nat) : prevC l (k + 1) = l[k]? := by simp [prevC]
end Go.Proofs.Ytlefmbjipdlcfaa
/- The cells of a box in hand, all at once; one cell; a box's new content told. -/
namespace Go.Proofs.Ytlefmbjipdlcfaa
open Go.RowKit
section
variable {w0 A : World} {L : List Res} {sd : Nat}
theorem Bun.cl (h : Bun w0 L A) (i j : Nat) {g : Nat} {t : TypeId} {cs : Array Value} {u : Value} (hi : L[i]? = some (rbox g t cs)) (hj : cs[j]? = some u) : A.cell? ⟨g, j, none⟩ = some u := (Bk.cell (h.at i hi) j).trans hj
theorem Bun.q (h : Bun w0 L A) (i j : Nat) {g : Nat} {t : TypeId} {cs : Array Value} {u : Value} (hi : L[i]? = some (rbox g t cs) := by exact rfl) (hj : cs[j]? = some u := by exact rfl) : A.cell? ⟨g, j, none⟩ = some u := (Bk.cell (h.at i hi) j).trans hj
theorem Bun.nf (cs' : Array Value) {g : Nat} {t : TypeId} {cs : Array Value} (h : Bun w0 (rbox g t cs :: L) A) (e : cs = cs') : Bun w0 (rbox g t cs' :: L) A := e ▸ h
theorem Bus.cl (h : Bus w0 sd L A) (i j : Nat) {g : Nat} {t : TypeId} {cs : Array Value} {u : Value} (hi : L[i]? = some (rbox g t cs)) (hj : cs[j]? = some u) : A.cell? ⟨g, j, none⟩ = some u := (Bk.cell (h.at i hi) j).trans hj
theorem Bus.q (h : Bus w0 sd L A) (i j : Nat) {g : Nat} {t : TypeId} {cs : Array Value} {u : Value} (hi : L[i]? = some (rbox g t cs) := by exact rfl) (hj : cs[j]? = some u := by exact rfl) : A.cell? ⟨g, j, none⟩ = some u := (Bk.cell (h.at i hi) j).trans hj
theorem Bus.nf (cs' : Array Value) {g : Nat} {t : TypeId} {cs : Array Value} (h : Bus w0 sd (rbox g t cs :: L) A) (e : cs = cs') : Bus w0 sd (rbox g t cs' :: L) A := e ▸ h
theorem Bk.bx1 {g : Nat} {t : TypeId} {a0 : Value} (b : Bk A g t #[a0]) : (A.cell? ⟨g, 0, none⟩ = some a0) /\ (A.frozen? ⟨g, 0, none⟩ = false) /\ g < A.heap.size := ⟨b.cell 0, b.frozen 0, b.lt⟩
theorem Bun.bx1 (h : Bun w0 L A) (i : Nat) {g : Nat} {t : TypeId} {a0 : Value} (hi : L[i]? = some (rbox g t #[a0])) : (A.cell? ⟨g, 0, none⟩ = some a0) /\ (A.frozen? ⟨g, 0, none⟩ = false) /\ g < A.heap.size := Bk.bx1 (h.at i hi)
theorem Bus.bx1 (h : Bus w0 sd L A) (i : Nat) {g : Nat} {t : TypeId} {a0 : Value} (hi : L[i]? = some (rbox g t #[a0])) : (A.cell? ⟨g, 0, none⟩ = some a0) /\ (A.frozen? ⟨g, 0, none⟩ = false) /\ g < A.heap.size := Bk.bx1 (h.at i hi)
theorem Bk.bx2 {g : Nat} {t : TypeId} {a0 a1 : Value} (b : Bk A g t #[a0, a1]) : (A.cell? ⟨g, 0, none⟩ = some a0 /\ A.cell? ⟨g, 1, none⟩ = some a1) /\ (A.frozen? ⟨g, 0, none⟩ = false /\ A.frozen? ⟨g, 1, none⟩ = false) /\ g < A.heap.size := ⟨⟨b.cell 0, b.cell 1⟩, ⟨b.frozen 0, b.frozen 1⟩, b.lt⟩
theorem Bun.bx2 (h : Bun w0 L A) (i : Nat) {g : Nat} {t : TypeId} {a0 a1 : Value} (hi : L[i]? = some (rbox g t #[a0, a1])) : (A.cell? ⟨g, 0, none⟩ = some a0 /\ A.cell? ⟨g, 1, none⟩ = some a1) /\ (A.frozen? ⟨g, 0, none⟩ = false /\ A.frozen? ⟨g, 1, none⟩ = false) /\ g < A.heap.size := Bk.bx2 (h.at i hi)
theorem Bus.bx2 (h : Bus w0 sd L A) (i : Nat) {g : Nat} {t : TypeId} {a0 a1 : Value} (hi : L[i]? = some (rbox g t #[a0, a1])) : (A.cell? ⟨g, 0, none⟩ = some a0 /\ A.cell? ⟨g, 1, none⟩ = some a1) /\ (A.frozen? ⟨g, 0, none⟩ = false /\ A.frozen? ⟨g, 1, none⟩ = false) /\ g < A.heap.size := Bk.bx2 (h.at i hi)
theorem Bk.bx3 {g : Nat} {t : TypeId} {a0 a1 a2 : Value} (b : Bk A g t #[a0, a1, a2]) : (A.cell? ⟨g, 0, none⟩ = some a0 /\ A.cell? ⟨g, 1, none⟩ = some a1 /\ A.cell? ⟨g, 2, none⟩ = some a2) /\ (A.frozen? ⟨g, 0, none⟩ = false /\ A.frozen? ⟨g, 1, none⟩ = false /\ A.frozen? ⟨g, 2, none⟩ = false) /\ g < A.heap.size := ⟨⟨b.cell 0, b.cell 1, b.cell 2⟩, ⟨b.frozen 0, b.frozen 1, b.frozen 2⟩, b.lt⟩
theorem Bun.bx3 (h : Bun w0 L A) (i : Nat) {g : Nat} {t : TypeId} {a0 a1 a2 : Value} (hi : L[i]? = some (rbox g t #[a0, a1, a2])) : (A.cell? ⟨g, 0, none⟩ = some a0 /\ A.cell? ⟨g, 1, none⟩ = some a1 /\ A.cell? ⟨g, 2, none⟩ = some a2) /\ (A.frozen? ⟨g, 0, none⟩ = false /\ A.frozen? ⟨g, 1, none⟩ = false /\ A.frozen? ⟨g, 2, none⟩ = false) /\ g < A.heap.size := Bk.bx3 (h.at i hi)
theorem Bus.bx3 (h : Bus w0 sd L A) (i : Nat) {g : Nat} {t : TypeId} {a0 a1 a2 : Value} (hi : L[i]? = some (rbox g t #[a0, a1, a2])) : (A.cell? ⟨g, 0, none⟩ = some a0 /\ A.cell? ⟨g, 1, none⟩ = some a1 /\ A.cell? ⟨g, 2, none⟩ = some a2) /\ (A.frozen? ⟨g, 0, none⟩ = false /\ A.frozen? ⟨g, 1, none⟩ = false /\ A.frozen? ⟨g, 2, none⟩ = false) /\ g < A.heap.size := Bk.bx3 (h.at i hi)
theorem Bk.bx5 {g : Nat} {t : TypeId} {a0 a1 a2 a3 a4 : Value} (b : Bk A g t #[a0, a1, a2, a3, a4]) : (A.cell? ⟨g, 0, none⟩ = some a0 /\ A.cell? ⟨g, 1, none⟩ = some a1 /\ A.cell? ⟨g, 2, none⟩ = some a2 /\ A.cell? ⟨g, 3, none⟩ = some a3 /\ A.cell? ⟨g, 4, none⟩ = some a4) /\ (A.frozen? ⟨g, 0, none⟩ = false /\ A.frozen? ⟨g, 1, none⟩ = false /\ A.frozen? ⟨g, 2, none⟩ = false /\ A.frozen? ⟨g, 3, none⟩ = false /\ A.frozen? ⟨g, 4, none⟩ = false) /\ g < A.heap.size := ⟨⟨b.cell 0, b.cell 1, b.cell 2, b.cell 3, b.cell 4⟩, ⟨b.frozen 0, b.frozen 1, b.frozen 2, b.frozen 3, b.frozen 4⟩, b.lt⟩
theorem Bun.bx5 (h : Bun w0 L A) (i : Nat) {g : Nat} {t : TypeId} {a0 a1 a2 a3 a4 : Value} (hi : L[i]? = some (rbox g t #[a0, a1, a2, a3, a4])) : (A.cell? ⟨g, 0, none⟩ = some a0 /\ A.cell? ⟨g, 1, none⟩ = some a1 /\ A.cell? ⟨g, 2, none⟩ = some a2 /\ A.cell? ⟨g, 3, none⟩ = some a3 /\ A.cell? ⟨g, 4, none⟩ = some a4) /\ (A.frozen? ⟨g, 0, none⟩ = false /\ A.frozen? ⟨g, 1, none⟩ = false /\ A.frozen? ⟨g, 2, none⟩ = false /\ A.frozen? ⟨g, 3, none⟩ = false /\ A.frozen? ⟨g, 4, none⟩ = false) /\ g < A.heap.size := Bk.bx5 (h.at i hi)
theorem Bus.bx5 (h : Bus w0 sd L A) (i : Nat) {g : Nat} {t : TypeId} {a0 a1 a2 a3 a4 : Value} (hi : L[i]? = some (rbox g t #[a0, a1, a2, a3, a4])) : (A.cell? ⟨g, 0, none⟩ = some a0 /\ A.cell? ⟨g, 1, none⟩ = some a1 /\ A.cell? ⟨g, 2, none⟩ = some a2 /\ A.cell? ⟨g, 3, none⟩ = some a3 /\ A.cell? ⟨g, 4, none⟩ = some a4) /\ (A.frozen? ⟨g, 0, none⟩ = false /\ A.frozen? ⟨g, 1, none⟩ = false /\ A.frozen? ⟨g, 2, none⟩ = false /\ A.frozen? ⟨g, 3, none⟩ = false /\ A.frozen? ⟨g, 4, none⟩ = false) /\ g < A.heap.size := Bk.bx5 (h.at i hi)
theorem Bk.bx6 {g : Nat} {t : TypeId} {a0 a1 a2 a3 a4 a5 : Value} (b : Bk A g t #[a0, a1, a2, a3, a4, a5]) : (A.cell? ⟨g, 0, none⟩ = some a0 /\ A.cell? ⟨g, 1, none⟩ = some a1 /\ A.cell? ⟨g, 2, none⟩ = some a2 /\ A.cell? ⟨g, 3, none⟩ = some a3 /\ A.cell? ⟨g, 4, none⟩ = some a4 /\ A.cell? ⟨g, 5, none⟩ = some a5) /\ (A.frozen? ⟨g, 0, none⟩ = false /\ A.frozen? ⟨g, 1, none⟩ = false /\ A.frozen? ⟨g, 2, none⟩ = false /\ A.frozen? ⟨g, 3, none⟩ = false /\ A.frozen? ⟨g, 4, none⟩ = false /\ A.frozen? ⟨g, 5, none⟩ = false) /\ g < A.heap.size := ⟨⟨b.cell 0, b.cell 1, b.cell 2, b.cell 3, b.cell 4, b.cell 5⟩, ⟨b.frozen 0, b.frozen 1, b.frozen 2, b.frozen 3, b.frozen 4, b.frozen 5⟩, b.lt⟩
theorem Bun.bx6 (h : Bun w0 L A) (i : Nat) {g : Nat} {t : TypeId} {a0 a1 a2 a3 a4 a5 : Value} (hi : L[i]? = some (rbox g t #[a0, a1, a2, a3, a4, a5])) : (A.cell? ⟨g, 0, none⟩ = some a0 /\ A.cell? ⟨g, 1, none⟩ = some a1 /\ A.cell? ⟨g, 2, none⟩ = some a2 /\ A.cell? ⟨g, 3, none⟩ = some a3 /\ A.cell? ⟨g, 4, none⟩ = some a4 /\ A.cell? ⟨g, 5, none⟩ = some a5) /\ (A.frozen? ⟨g, 0, none⟩ = false /\ A.frozen? ⟨g, 1, none⟩ = false /\ A.frozen? ⟨g, 2, none⟩ = false /\ A.frozen? ⟨g, 3, none⟩ = false /\ A.frozen? ⟨g, 4, none⟩ = false /\ A.frozen? ⟨g, 5, none⟩ = false) /\ g < A.heap.size := Bk.bx6 (h.at i hi)
theorem Bus.bx6 (h : Bus w0 sd L A) (i : Nat) {g : Nat} {t : TypeId} {a0 a1 a2 a3 a4 a5 : Value} (hi : L[i]? = some (rbox g t #[a0, a1, a2, a3, a4, a5])) : (A.cell? ⟨g, 0, none⟩ = some a0 /\ A.cell? ⟨g, 1, none⟩ = some a1 /\ A.cell? ⟨g, 2, none⟩ = some a2 /\ A.cell? ⟨g, 3, none⟩ = some a3 /\ A.cell? ⟨g, 4, none⟩ = some a4 /\ A.cell? ⟨g, 5, none⟩ = some a5) /\ (A.frozen? ⟨g, 0, none⟩ = false /\ A.frozen? ⟨g, 1, none⟩ = false /\ A.frozen? ⟨g, 2, none⟩ = false /\ A.frozen? ⟨g, 3, none⟩ = false /\ A.frozen? ⟨g, 4, none⟩ = false /\ A.frozen? ⟨g, 5, none⟩ = false) /\ g < A.heap.size := Bk.bx6 (h.at i hi)
theorem Bk.bx7 {g : Nat} {t : TypeId} {a0 a1 a2 a3 a4 a5 a6 : Value} (b : Bk A g t #[a0, a1, a2, a3, a4, a5, a6]) : (A.cell? ⟨g, 0, none⟩ = some a0 /\ A.cell? ⟨g, 1, none⟩ = some a1 /\ A.cell? ⟨g, 2, none⟩ = some a2 /\ A.cell? ⟨g, 3, none⟩ = some a3 /\ A.cell? ⟨g, 4, none⟩ = some a4 /\ A.cell? ⟨g, 5, none⟩ = some a5 /\ A.cell? ⟨g, 6, none⟩ = some a6) /\ (A.frozen? ⟨g, 0, none⟩ = false /\ A.frozen? ⟨g, 1, none⟩ = false /\ A.frozen? ⟨g, 2, none⟩ = false /\ A.frozen? ⟨g, 3, none⟩ = false /\ A.frozen? ⟨g, 4, none⟩ = false /\ A.frozen? ⟨g, 5, none⟩ = false /\ A.frozen? ⟨g, 6, none⟩ = false) /\ g < A.heap.size := ⟨⟨b.cell 0, b.cell 1, b.cell 2, b.cell 3, b.cell 4, b.cell 5, b.cell 6⟩, ⟨b.frozen 0, b.frozen 1, b.frozen 2, b.frozen 3, b.frozen 4, b.frozen 5, b.frozen 6⟩, b.lt⟩
theorem Bun.bx7 (h : Bun w0 L A) (i : Nat) {g : Nat} {t : TypeId} {a0 a1 a2 a3 a4 a5 a6 : Value} (hi : L[i]? = some (rbox g t #[a0, a1, a2, a3, a4, a5, a6])) : (A.cell? ⟨g, 0, none⟩ = some a0 /\ A.cell? ⟨g, 1, none⟩ = some a1 /\ A.cell? ⟨g, 2, none⟩ = some a2 /\ A.cell? ⟨g, 3, none⟩ = some a3 /\ A.cell? ⟨g, 4, none⟩ = some a4 /\ A.cell? ⟨g, 5, none⟩ = some a5 /\ A.cell? ⟨g, 6, none⟩ = some a6) /\ (A.frozen? ⟨g, 0, none⟩ = false /\ A.frozen? ⟨g, 1, none⟩ = false /\ A.frozen? ⟨g, 2, none⟩ = false /\ A.frozen? ⟨g, 3, none⟩ = false /\ A.frozen? ⟨g, 4, none⟩ = false /\ A.frozen? ⟨g, 5, none⟩ = false /\ A.frozen? ⟨g, 6, none⟩ = false) /\ g < A.heap.size := Bk.bx7 (h.at i hi)
theorem Bus.bx7 (h : Bus w0 sd L A) (i : Nat) {g : Nat} {t : TypeId} {a0 a1 a2 a3 a4 a5 a6 : Value} (hi : L[i]? = some (rbox g t #[a0, a1, a2, a3, a4, a5, a6])) : (A.cell? ⟨g, 0, none⟩ = some a0 /\ A.cell? ⟨g, 1, none⟩ = some a1 /\ A.cell? ⟨g, 2, none⟩ = some a2 /\ A.cell? ⟨g, 3, none⟩ = some a3 /\ A.cell? ⟨g, 4, none⟩ = some a4 /\ A.cell? ⟨g, 5, none⟩ = some a5 /\ A.cell? ⟨g, 6, none⟩ = some a6) /\ (A.frozen? ⟨g, 0, none⟩ = false /\ A.frozen? ⟨g, 1, none⟩ = false /\ A.frozen? ⟨g, 2, none⟩ = false /\ A.frozen? ⟨g, 3, none⟩ = false /\ A.frozen? ⟨g, 4, none⟩ = false /\ A.frozen? ⟨g, 5, none⟩ = false /\ A.frozen? ⟨g, 6, none⟩ = false) /\ g < A.heap.size := Bk.bx7 (h.at i hi)
theorem Bk.bx8 {g : Nat} {t : TypeId} {a0 a1 a2 a3 a4 a5 a6 a7 : Value} (b : Bk A g t #[a0, a1, a2, a3, a4, a5, a6, a7]) : (A.cell? ⟨g, 0, none⟩ = some a0 /\ A.cell? ⟨g, 1, none⟩ = some a1 /\ A.cell? ⟨g, 2, none⟩ = some a2 /\ A.cell? ⟨g, 3, none⟩ = some a3 /\ A.cell? ⟨g, 4, none⟩ = some a4 /\ A.cell? ⟨g, 5, none⟩ = some a5 /\ A.cell? ⟨g, 6, none⟩ = some a6 /\ A.cell? ⟨g, 7, none⟩ = some a7) /\ (A.frozen? ⟨g, 0, none⟩ = false /\ A.frozen? ⟨g, 1, none⟩ = false /\ A.frozen? ⟨g, 2, none⟩ = false /\ A.frozen? ⟨g, 3, none⟩ = false /\ A.frozen? ⟨g, 4, none⟩ = false /\ A.frozen? ⟨g, 5, none⟩ = false /\ A.frozen? ⟨g, 6, none⟩ = false /\ A.frozen? ⟨g, 7, none⟩ = false) /\ g < A.heap.size := ⟨⟨b.cell 0, b.cell 1, b.cell 2, b.cell 3, b.cell 4, b.cell 5, b.cell 6, b.cell 7⟩, ⟨b.frozen 0, b.frozen 1, b.frozen 2, b.frozen 3, b.frozen 4, b.frozen 5, b.frozen 6, b.frozen 7⟩, b.lt⟩
theorem Bun.bx8 (h : Bun w0 L A) (i : Nat) {g : Nat} {t : TypeId} {a0 a1 a2 a3 a4 a5 a6 a7 : Value} (hi : L[i]? = some (rbox g t #[a0, a1, a2, a3, a4, a5, a6, a7])) : (A.cell? ⟨g, 0, none⟩ = some a0 /\ A.cell? ⟨g, 1, none⟩ = some a1 /\ A.cell? ⟨g, 2, none⟩ = some a2 /\ A.cell? ⟨g, 3, none⟩ = some a3 /\ A.cell? ⟨g, 4, none⟩ = some a4 /\ A.cell? ⟨g, 5, none⟩ = some a5 /\ A.cell? ⟨g, 6, none⟩ = some a6 /\ A.cell? ⟨g, 7, none⟩ = some a7) /\ (A.frozen? ⟨g, 0, none⟩ = false /\ A.frozen? ⟨g, 1, none⟩ = false /\ A.frozen? ⟨g, 2, none⟩ = false /\ A.frozen? ⟨g, 3, none⟩ = false /\ A.frozen? ⟨g, 4, none⟩ = false /\ A.frozen? ⟨g, 5, none⟩ = false /\ A.frozen? ⟨g, 6, none⟩ = false /\ A.frozen? ⟨g, 7, none⟩ = false) /\ g < A.heap.size := Bk.bx8 (h.at i hi)
theorem Bus.bx8 (h : Bus w0 sd L A) (i : Nat) {g : Nat} {t : TypeId} {a0 a1 a2 a3 a4 a5 a6 a7 : Value} (hi : L[i]? = some (rbox g t #[a0, a1, a2, a3, a4, a5, a6, a7])) : (A.cell? ⟨g, 0, none⟩ = some a0 /\ A.cell? ⟨g, 1, none⟩ = some a1 /\ A.cell? ⟨g, 2, none⟩ = some a2 /\ A.cell? ⟨g, 3, none⟩ = some a3 /\ A.cell? ⟨g, 4, none⟩ = some a4 /\ A.cell? ⟨g, 5, none⟩ = some a5 /\ A.cell? ⟨g, 6, none⟩ = some a6 /\ A.cell? ⟨g, 7, none⟩ = some a7) /\ (A.frozen? ⟨g, 0, none⟩ = false /\ A.frozen? ⟨g, 1, none⟩ = false /\ A.frozen? ⟨g, 2, none⟩ = false /\ A.frozen? ⟨g, 3, none⟩ = false /\ A.frozen? ⟨g, 4, none⟩ = false /\ A.frozen? ⟨g, 5, none⟩ = false /\ A.frozen? ⟨g, 6, none⟩ = false /\ A.frozen? ⟨g, 7, none⟩ = false) /\ g < A.heap.size := Bk.bx8 (h.at i hi)
theorem Bk.bx11 {g : Nat} {t : TypeId} {a0 a1 a2 a3 a4 a5 a6 a7 a8 a9 a10 : Value} (b : Bk A g t #[a0, a1, a2, a3, a4, a5, a6, a7, a8, a9, a10]) : (A.cell? ⟨g, 0, none⟩ = some a0 /\ A.cell? ⟨g, 1, none⟩ = some a1 /\ A.cell? ⟨g, 2, none⟩ = some a2 /\ A.cell? ⟨g, 3, none⟩ = some a3 /\ A.cell? ⟨g, 4, none⟩ = some a4 /\ A.cell? ⟨g, 5, none⟩ = some a5 /\ A.cell? ⟨g, 6, none⟩ = some a6 /\ A.cell? ⟨g, 7, none⟩ = some a7 /\ A.cell? ⟨g, 8, none⟩ = some a8 /\ A.cell? ⟨g, 9, none⟩ = some a9 /\ A.cell? ⟨g, 10, none⟩ = some a10) /\ (A.frozen? ⟨g, 0, none⟩ = false /\ A.frozen? ⟨g, 1, none⟩ = false /\ A.frozen? ⟨g, 2, none⟩ = false /\ A.frozen? ⟨g, 3, none⟩ = false /\ A.frozen? ⟨g, 4, none⟩ = false /\ A.frozen? ⟨g, 5, none⟩ = false /\ A.frozen? ⟨g, 6, none⟩ = false /\ A.frozen? ⟨g, 7, none⟩ = false /\ A.frozen? ⟨g, 8, none⟩ = false /\ A.frozen? ⟨g, 9, none⟩ = false /\ A.frozen? ⟨g, 10, none⟩ = false) /\ g < A.heap.size := ⟨⟨b.cell 0, b.cell 1, b.cell 2, b.cell 3, b.cell 4, b.cell 5, b.cell 6, b.cell 7, b.cell 8, b.cell 9, b.cell 10⟩, ⟨b.frozen 0, b.frozen 1, b.frozen 2, b.frozen 3, b.frozen 4, b.frozen 5, b.frozen 6, b.frozen 7, b.frozen 8, b.frozen 9, b.frozen 10⟩, b.lt⟩
theorem Bun.bx11 (h : Bun w0 L A) (i : Nat) {g : Nat} {t : TypeId} {a0 a1 a2 a3 a4 a5 a6 a7 a8 a9 a10 : Value} (hi : L[i]? = some (rbox g t #[a0, a1, a2, a3, a4, a5, a6, a7, a8, a9, a10])) : (A.cell? ⟨g, 0, none⟩ = some a0 /\ A.cell? ⟨g, 1, none⟩ = some a1 /\ A.cell? ⟨g, 2, none⟩ = some a2 /\ A.cell? ⟨g, 3, none⟩ = some a3 /\ A.cell? ⟨g, 4, none⟩ = some a4 /\ A.cell? ⟨g, 5, none⟩ = some a5 /\ A.cell? ⟨g, 6, none⟩ = some a6 /\ A.cell? ⟨g, 7, none⟩ = some a7 /\ A.cell? ⟨g, 8, none⟩ = some a8 /\ A.cell? ⟨g, 9, none⟩ = some a9 /\ A.cell? ⟨g, 10, none⟩ = some a10) /\ (A.frozen? ⟨g, 0, none⟩ = false /\ A.frozen? ⟨g, 1, none⟩ = false /\ A.frozen? ⟨g, 2, none⟩ = false /\ A.frozen? ⟨g, 3, none⟩ = false /\ A.frozen? ⟨g, 4, none⟩ = false /\ A.frozen? ⟨g, 5, none⟩ = false /\ A.frozen? ⟨g, 6, none⟩ = false /\ A.frozen? ⟨g, 7, none⟩ = false /\ A.frozen? ⟨g, 8, none⟩ = false /\ A.frozen? ⟨g, 9, none⟩ = false /\ A.frozen? ⟨g, 10, none⟩ = false) /\ g < A.heap.size := Bk.bx11 (h.at i hi)
theorem Bus.bx11 (h : Bus w0 sd L A) (i : Nat) {g : Nat} {t : TypeId} {a0 a1 a2 a3 a4 a5 a6 a7 a8 a9 a10 : Value} (hi : L[i]? = some (rbox g t #[a0, a1, a2, a3, a4, a5, a6, a7, a8, a9, a10])) : (A.cell? ⟨g, 0, none⟩ = some a0 /\ A.cell? ⟨g, 1, none⟩ = some a1 /\ A.cell? ⟨g, 2, none⟩ = some a2 /\ A.cell? ⟨g, 3, none⟩ = some a3 /\ A.cell? ⟨g, 4, none⟩ = some a4 /\ A.cell? ⟨g, 5, none⟩ = some a5 /\ A.cell? ⟨g, 6, none⟩ = some a6 /\ A.cell? ⟨g, 7, none⟩ = some a7 /\ A.cell? ⟨g, 8, none⟩ = some a8 /\ A.cell? ⟨g, 9, none⟩ = some a9 /\ A.cell? ⟨g, 10, none⟩ = some a10) /\ (A.frozen? ⟨g, 0, none⟩ = false /\ A.frozen? ⟨g, 1, none⟩ = false /\ A.frozen? ⟨g, 2, none⟩ = false /\ A.frozen? ⟨g, 3, none⟩ = false /\ A.frozen? ⟨g, 4, none⟩ = false /\ A.frozen? ⟨g, 5, none⟩ = false /\ A.frozen? ⟨g, 6, none⟩ = false /\ A.frozen? ⟨g, 7, none⟩ = false /\ A.frozen? ⟨g, 8, none⟩ = false /\ A.frozen? ⟨g, 9, none⟩ = false /\ A.frozen? ⟨g, 10, none⟩ = false) /\ g < A.heap.size := Bk.bx11 (h.at i hi)
theorem Bun.pt2 {g : Nat} {t : TypeId} {a0 a1 : Value} (h : Bun w0 (rbox g t #[a0, a1] :: L) A) (u0 u1 : Value) : Bun w0 (rbox g t #[u0, u1] :: L) (World.setCell (World.setCell A ⟨g, 0, none⟩ u0) ⟨g, 1, none⟩ u1) := by
 simpa using ((h.set 0 u0).set 1 u1)
theorem Bus.pt2 {g : Nat} {t : TypeId} {a0 a1 : Value} (h : Bus w0 sd (rbox g t #[a0, a1] :: L) A) (u0 u1 : Value) : Bus w0 sd (rbox g t #[u0, u1] :: L) (World.setCell (World.setCell A ⟨g, 0, none⟩ u0) ⟨g, 1, none⟩ u1) := by
 simpa using ((h.set 0 u0).set 1 u1)
theorem Bun.pt5 {g : Nat} {t : TypeId} {a0 a1 a2 a3 a4 : Value} (h : Bun w0 (rbox g t #[a0, a1, a2, a3, a4] :: L) A) (u0 u1 u2 u3 u4 : Value) : Bun w0 (rbox g t #[u0, u1, u2, u3, u4] :: L) (World.setCell (World.setCell (World.setCell (World.setCell (World.setCell A ⟨g, 0, none⟩ u0) ⟨g, 1, none⟩ u1) ⟨g, 2, none⟩ u2) ⟨g, 3, none⟩ u3) ⟨g, 4, none⟩ u4) := by
 simpa using (((((h.set 0 u0).set 1 u1).set 2 u2).set 3 u3).set 4 u4)
theorem Bus.pt5 {g : Nat} {t : TypeId} {a0 a1 a2 a3 a4 : Value} (h : Bus w0 sd (rbox g t #[a0, a1, a2, a3, a4] :: L) A) (u0 u1 u2 u3 u4 : Value) : Bus w0 sd (rbox g t #[u0, u1, u2, u3, u4] :: L) (World.setCell (World.setCell (World.setCell (World.setCell (World.setCell A ⟨g, 0, none⟩ u0) ⟨g, 1, none⟩ u1) ⟨g, 2, none⟩ u2) ⟨g, 3, none⟩ u3) ⟨g, 4, none⟩ u4) := by
 simpa using (((((h.set 0 u0).set 1 u1).set 2 u2).set 3 u3).set 4 u4)
theorem Bun.pt7 {g : Nat} {t : TypeId} {a0 a1 a2 a3 a4 a5 a6 : Value} (h : Bun w0 (rbox g t #[a0, a1, a2, a3, a4, a5, a6] :: L) A) (u0 u1 u2 u3 u4 u5 u6 : Value) : Bun w0 (rbox g t #[u0, u1, u2, u3, u4, u5, u6] :: L) (World.setCell (World.setCell (World.setCell (World.setCell (World.setCell (World.setCell (World.setCell A ⟨g, 0, none⟩ u0) ⟨g, 1, none⟩ u1) ⟨g, 2, none⟩ u2) ⟨g, 3, none⟩ u3) ⟨g, 4, none⟩ u4) ⟨g, 5, none⟩ u5) ⟨g, 6, none⟩ u6) := by
 simpa using (((((((h.set 0 u0).set 1 u1).set 2 u2).set 3 u3).set 4 u4).set 5 u5).set 6 u6)
theorem Bus.pt7 {g : Nat} {t : TypeId} {a0 a1 a2 a3 a4 a5 a6 : Value} (h : Bus w0 sd (rbox g t #[a0, a1, a2, a3, a4, a5, a6] :: L) A) (u0 u1 u2 u3 u4 u5 u6 : Value) : Bus w0 sd (rbox g t #[u0, u1, u2, u3, u4, u5, u6] :: L) (World.setCell (World.setCell (World.setCell (World.setCell (World.setCell (World.setCell (World.setCell A ⟨g, 0, none⟩ u0) ⟨g, 1, none⟩ u1) ⟨g, 2, none⟩ u2) ⟨g, 3, none⟩ u3) ⟨g, 4, none⟩ u4) ⟨g, 5, none⟩ u5) ⟨g, 6, none⟩ u6) := by
 simpa using (((((((h.set 0 u0).set 1 u1).set 2 u2).set 3 u3).set 4 u4).set 5 u5).set 6 u6)
theorem Bun.pt8 {g : Nat} {t : TypeId} {a0 a1 a2 a3 a4 a5 a6 a7 : Value} (h : Bun w0 (rbox g t #[a0, a1, a2, a3, a4, a5, a6, a7] :: L) A) (u0 u1 u2 u3 u4 u5 u6 u7 : Value) : Bun w0 (rbox g t #[u0, u1, u2, u3, u4, u5, u6, u7] :: L) (World.setCell (World.setCell (World.setCell (World.setCell (World.setCell (World.setCell (World.setCell (World.setCell A ⟨g, 0, none⟩ u0) ⟨g, 1, none⟩ u1) ⟨g, 2, none⟩ u2) ⟨g, 3, none⟩ u3) ⟨g, 4, none⟩ u4) ⟨g, 5, none⟩ u5) ⟨g, 6, none⟩ u6) ⟨g, 7, none⟩ u7) := by
 simpa using ((((((((h.set 0 u0).set 1 u1).set 2 u2).set 3 u3).set 4 u4).set 5 u5).set 6 u6).set 7 u7)
theorem Bus.pt8 {g : Nat} {t : TypeId} {a0 a1 a2 a3 a4 a5 a6 a7 : Value} (h : Bus w0 sd (rbox g t #[a0, a1, a2, a3, a4, a5, a6, a7] :: L) A) (u0 u1 u2 u3 u4 u5 u6 u7 : Value) : Bus w0 sd (rbox g t #[u0, u1, u2, u3, u4, u5, u6, u7] :: L) (World.setCell (World.setCell (World.setCell (World.setCell (World.setCell (World.setCell (World.setCell (World.setCell A ⟨g, 0, none⟩ u0) ⟨g, 1, none⟩ u1) ⟨g, 2, none⟩ u2) ⟨g, 3, none⟩ u3) ⟨g, 4, none⟩ u4) ⟨g, 5, none⟩ u5) ⟨g, 6, none⟩ u6) ⟨g, 7, none⟩ u7) := by
 simpa using ((((((((h.set 0 u0).set 1 u1).set 2 u2).set 3 u3).set 4 u4).set 5 u5).set 6 u6).set 7 u7)
end
end Go.Proofs.Ytlefmbjipdlcfaa
/- Inside a round of a range over a function: a region that draws, walked as elsewhere. -/
namespace Go.Proofs.Ytlefmbjipdlcfaa
open Go.RowKit
section
variable {P : Program} {ops : Array Oper} {Q : Exit -> Act -> World -> Prop} {l n : Nat}
end
end Go.Proofs.Ytlefmbjipdlcfaa
/- A range over a function whose iterator keeps blocks of its own between rounds: the iterator's contract, the loop's law, and the range of blocks that a body leaves alone. -/
namespace Go.Proofs.Ytlefmbjipdlcfaa
open Go.RowKit Go.Shelf
def KeepR (lo hi : Nat) (A B : World) : Prop := hi <= B.heap.size /\ ∀ g, lo <= g -> g < hi -> B.heap[g]? = A.heap[g]?
theorem KeepR.mono {lo hi lo' hi' : Nat} {A B : World} (h : KeepR lo hi A B) (h1 : lo <= lo') (h2 : hi' <= hi) : KeepR lo' hi' A B := ⟨Nat.le_trans h2 h.1, fun g a b => h.2 g (by omega) (by omega)⟩
def rkeep (lo hi : Nat) (W0 : World) : Res :=
 ⟨true, fun x => lo <= x /\ x < hi, fun w => KeepR lo hi W0 w, fun A B _ hg hr h => ⟨Nat.le_trans h.1 hg.size, fun g a b => (hg.block g (Nat.lt_of_lt_of_le b h.1) (fun e => hr g e.symm ⟨a, b⟩)).trans (h.2 g a b)⟩⟩
section
variable {w0 A B : World} {L : List Res} {sd : Nat}
theorem Bun.kept {lo hi : Nat} {W0 : World} (h : Bun w0 (rkeep lo hi W0 :: L) A) : KeepR lo hi W0 A := h.all _ (.head _)
theorem Bus.kept {lo hi : Nat} {W0 : World} (h : Bus w0 sd (rkeep lo hi W0 :: L) A) : KeepR lo hi W0 A := h.all _ (.head _)
end
end Go.Proofs.Ytlefmbjipdlcfaa
/- Marks of ranges over a function as a resource; a walk's stop; loops and returns with marks. -/
namespace Go.Proofs.Ytlefmbjipdlcfaa
open Go.RowKit Go.Shelf
def rfix (g : Nat) (t : TypeId) (cs : Array Value) : Res := ⟨false, fun x => x = g, fun w => Bk w g t cs, fun _ _ _ hg hr h => Bk.gb h hg (fun e => hr g e.symm rfl)⟩
theorem Bun.fix0 {w0 : World} {L : List Res} {g : Nat} {t : TypeId} {cs : Array Value} (h : Bun w0 L w0) (hs : Bk w0 g t cs) (hm : L.all (fun r => !r.mine) = true) : Bun w0 (rfix g t cs :: L) w0 := by
 have hm' : ∀ r ∈ L, r.mine = false := fun r hr => by have := List.all_eq_true.1 hm r hr; simpa using this
 refine ⟨fun r hr => ?_, fun r hr g hx => ?_, ?_, h.gb⟩
 ·
  rcases List.mem_cons.1 hr with rfl | hr
  · exact hs
  · exact h.all r hr
 ·
  rcases List.mem_cons.1 hr with rfl | hr
  · cases hx; exact ⟨hs.lt, fun e => by cases e⟩
  · exact h.bd r hr g hx
 rw [List.pairwise_cons]
 exact ⟨(fun x hx hmm => by
  rw [hm' x hx] at hmm
  rcases hmm with h1 | h1 <;> cases h1), h.dis⟩
theorem Bun.non0 {w0 : World} {L : List Res} (r0 : Res) (h : Bun w0 L w0) (hs : r0.P w0) (hx : ∀ g, r0.X g -> g < w0.heap.size) (hr0 : r0.mine = false) (hm : L.all (fun r => !r.mine) = true) : Bun w0 (r0 :: L) w0 := by
 have hm' : ∀ r ∈ L, r.mine = false := fun r hr => by have := List.all_eq_true.1 hm r hr; simpa using this
 refine ⟨fun r hr => ?_, fun r hr g hx' => ?_, ?_, h.gb⟩
 ·
  rcases List.mem_cons.1 hr with rfl | hr
  · exact hs
  · exact h.all r hr
 ·
  rcases List.mem_cons.1 hr with rfl | hr
  · exact ⟨hx g hx', fun e => by rw [hr0] at e; cases e⟩
  · exact h.bd r hr g hx'
 rw [List.pairwise_cons]
 exact ⟨(fun x hx hmm => by
  rw [hm' x hx, hr0] at hmm
  rcases hmm with h1 | h1 <;> cases h1), h.dis⟩
theorem flat_at' {α : Type} {enc : α -> List Value} {sz : Nat} (hsz : ∀ x, (enc x).length = sz) : ∀ (l : List α) (i : Nat) (x : α), l[i]? = some x -> ∀ j u, (enc x)[j]? = some u -> (l.flatMap enc)[i * sz + j]? = some u := by
 intro l
 induction l with
 | nil => intro i x h; simp at h
 | cons y l ih =>
  intro i x hi j u hj
  have hjl : j < sz := by have := (List.getElem?_eq_some_iff.1 hj).1; rw [hsz] at this; exact this
  rw [List.flatMap_cons]
  cases i with
  | zero =>
   simp at hi
   subst hi
   rw [List.getElem?_append_left (by rw [hsz]; omega)]
   simpa using hj
  | succ i =>
   rw [List.getElem?_append_right (by rw [hsz, Nat.succ_mul]; omega), hsz]
   have : (i + 1) * sz + j - sz = i * sz + j := by rw [Nat.succ_mul]; omega
   rw [this]
   exact ih i x (by simpa using hi) j u hj
theorem Bun.lit {α : Type} (enc : α -> List Value) (sz : Nat) (l : List α) (c : Nat) {w0 A : World} {L : List Res} {g : Nat} {t : TypeId} {cs : Array Value} (h : Bun w0 (rbox g t cs :: L) A) (hsz : ∀ x, (enc x).length = sz) (hcs : cs.toList = l.flatMap enc) (hl : l.length <= 1000) :
  Bun w0 (rsl enc sz g (g + 1) (.slice (some ⟨g, 0, none⟩) l.length c) l :: L) A := by
 have hb : Bk A g t cs := h.all _ (.head _)
 have hs : Sl enc sz g (g + 1) A (.slice (some ⟨g, 0, none⟩) l.length c) l :=
  ⟨by unfold maxLen; omega, _, c, rfl, .inr ⟨g, 0, rfl, Nat.le_refl _, by omega, fun i x hi j u hj => by
   have h1 := flat_at' hsz l i x hi j u hj
   rw [← hcs] at h1
   rw [show 0 + i * sz + j = i * sz + j by omega, hb.cell]
   simpa using h1⟩⟩
 have hd := h.dis
 rw [List.pairwise_cons] at hd
 refine ⟨fun r hr => ?_, fun r hr x hx => ?_, ?_, h.gb⟩
 ·
  rcases List.mem_cons.1 hr with rfl | hr
  · exact hs
  · exact h.all r (.tail _ hr)
 ·
  rcases List.mem_cons.1 hr with rfl | hr
  ·
   have e : x = g := by have := hx.1; have := hx.2; omega
   subst e
   exact ⟨hb.lt, fun e => by cases e⟩
  · exact h.bd r (.tail _ hr) x hx
 rw [List.pairwise_cons]
 refine ⟨fun x hx hm y hy1 hy2 => ?_, hd.2⟩
 have e : y = g := by have := hy1.1; have := hy1.2; omega
 subst e
 exact hd.1 x hx (.inl rfl) y rfl hy2
section
variable {w0 A B : World} {L : List Res} {sd : Nat}
end
end Go.Proofs.Ytlefmbjipdlcfaa
/- A region that draws, with allocations that may come up anywhere beside a chain of calls: one step for each operation, whatever the order. -/
namespace Go.Proofs.Ytlefmbjipdlcfaa
open Go.RowKit Go.Shelf
structure AllocS where
 k : Nat
 d : Nat
 t : TypeId
 cs : Array Value
 v : Nat -> Value
def mrk (l : Array Bool) : List Nat -> Array Bool
 | [] => l
 | i :: is => mrk (l.setIfInBounds i true) is
theorem mrk_size : ∀ (is : List Nat) (l : Array Bool), (mrk l is).size = l.size
 | [], _ => rfl
 | i :: is, l => by rw [mrk, mrk_size is]; simp
theorem mrk_get : ∀ (is : List Nat) (l : Array Bool) (i : Nat), i < l.size -> ((mrk l is).getD i false = true ↔ l.getD i false = true ∨ i ∈ is)
 | [], l, i, h => by simp [mrk]
 | x :: is, l, i, h => by
  rw [mrk, mrk_get is _ i (by simpa using h)]
  by_cases e : x = i
  · subst e; simp [h]
  rw [getD_set_ne false e]
  simp [Ne.symm e]
def Ups (l0 listed : Array Bool) (X : Nat -> Prop) : Prop := listed.size = l0.size /\ ∀ i, i < l0.size -> (listed.getD i false = true ↔ l0.getD i false = true ∨ X i)
theorem getD_tf {l : Array Bool} {i : Nat} (h : i < l.size) : l.getD i true = l.getD i false := by simp [h]
theorem getD_lt {l : Array Bool} {i : Nat} (h : l.getD i true = false) : i < l.size := by
 rcases Nat.lt_or_ge i l.size with h' | h'
 · exact h'
 · simp [Array.getElem?_eq_none h'] at h
theorem getD_lt' {l : Array Bool} {i : Nat} (h : l.getD i false = true) : i < l.size := by
 rcases Nat.lt_or_ge i l.size with h' | h'
 · exact h'
 · simp [Array.getElem?_eq_none h'] at h
section
variable {ops : Array Oper} {md : Region.Mode} {l0 listed : Array Bool} {X : Nat -> Prop}
theorem Ups.mrk (l0 : Array Bool) (xs : List Nat) : Ups l0 (mrk l0 xs) (fun i => i ∈ xs) := ⟨mrk_size xs l0, fun i hi => mrk_get xs l0 i hi⟩
theorem Ups.set {i : Nat} (h : Ups l0 listed X) : Ups l0 (listed.setIfInBounds i true) (fun x => X x ∨ x = i) := by
 refine ⟨by simpa using h.1, fun x hx => ?_⟩
 by_cases e : i = x
 ·
  subst e
  have : i < listed.size := by rw [h.1]; exact hx
  simp [this]
 rw [getD_set_ne false e, h.2 x hx]
 constructor
 ·
  rintro (a | a)
  · exact .inl a
  · exact .inr (.inl a)
 rintro (a | a | a)
 · exact .inl a
 · exact .inr a
 · exact absurd a.symm e
theorem Ups.ext {listed' : Array Bool} (h : Ups l0 listed X) (h' : Ups l0 listed' X) : listed = listed' := by
 refine Array.ext (h.1.trans h'.1.symm) fun i h1 h2 => ?_
 have hi : i < l0.size := by rw [← h.1]; exact h1
 have a := (h.2 i hi).trans (h'.2 i hi).symm
 simp only [Array.getD_eq_getD_getElem?, Array.getElem?_eq_getElem h1, Array.getElem?_eq_getElem h2, Option.getD_some] at a
 cases e1 : listed[i] <;> cases e2 : listed'[i] <;> simp_all
theorem Ups.congr {Y : Nat -> Prop} (h : Ups l0 listed X) (hxy : ∀ i, X i ↔ Y i) : Ups l0 listed Y := ⟨h.1, fun i hi => by rw [h.2 i hi, hxy i]⟩
theorem ready_more {listed' : Array Bool} {Y : Nat -> Prop} {i : Nat} (h : Ups l0 listed X) (h' : Ups l0 listed' Y) (hxy : ∀ x, X x -> Y x) (hi : i ∈ Region.ready md ops listed) (hn : ¬ Y i) : i ∈ Region.ready md ops listed' := by
 rw [mem_ready] at hi ⊢
 obtain ⟨h0, o, ho, ha⟩ := hi
 have hl := getD_lt h0
 rw [getD_tf hl] at h0
 have hl0 : i < l0.size := by rw [← h.1]; exact hl
 have hl' : i < listed'.size := by rw [h'.1]; exact hl0
 refine ⟨?_, o, ho, fun e he hb => ?_⟩
 ·
  rw [getD_tf hl']
  have : ¬ listed'.getD i false = true := fun e => by
   rcases (h'.2 i hl0).1 e with e1 | e1
   · have := (h.2 i hl0).2 (.inl e1); rw [h0] at this; cases this
   · exact hn e1
  simpa using this
 have h1 := ha e he hb
 have hx : e.on < l0.size := by rw [← h.1]; exact getD_lt' h1
 rcases (h.2 _ hx).1 h1 with h2 | h2
 · exact (h'.2 _ hx).2 (.inl h2)
 · exact (h'.2 _ hx).2 (.inr (hxy _ h2))
end
def upd (t : Nat -> Value) (d : Nat) (v : Value) : Nat -> Value := fun i => if i = d then v else t i
theorem slot_put {a : Act} {d : Nat} {v : Value} (h : d < a.tmps.size) : slot (a.put (some d) v).tmps = upd (slot a.tmps) d v := by
 funext i
 unfold slot upd
 by_cases e : i = d
 · subst e; simp [Act.put, h]
 · simp [Act.put, e, Array.getElem?_setIfInBounds_ne (Ne.symm e)]
theorem frame_slots {T : Array Value} {n : Nat} (hT : T.size = n) : T = ((List.range n).map (slot T)).toArray := by
 refine Array.ext (by simp [hT]) fun i h1 h2 => ?_
 simp [slot, h1]
section
variable {P : Program} {ops : Array Oper} {Q : Exit -> Act -> World -> Prop} {md : Region.Mode} {S : World -> Prop} {d : Nat}
structure GoodG (G : List Res -> World -> Prop) : Prop where
 gn : ∀ L A B, G L A -> A.grownBy B none -> G L B
 new : ∀ L A t cs, G L A -> G (rbox A.heap.size t cs :: L) (A.alloc (.cells cs t))
 perm : ∀ L L' A, G L A -> L.Perm L' -> G L' A
theorem goodBunS (w0 : World) (k : Nat) : GoodG (fun L W => Bun w0 L W /\ k <= W.heap.size) := ⟨fun _ _ _ h hg => ⟨h.1.gn hg, Nat.le_trans h.2 hg.size⟩, fun _ _ t cs h => ⟨h.1.new t cs rfl, by have := h.2; simp; omega⟩, fun _ _ _ h hp => ⟨h.1.perm hp, h.2⟩⟩
def ptrOf (g : Nat) : Value := .pointer (some ⟨g, 0, none⟩)
def Step (P : Program) (ops : Array Oper) (Q : Exit -> Act -> World -> Prop) (S : World -> Prop) (G : List Res -> World -> Prop) (n : Nat) (ls : List AllocS) (i : Nat) (U U' : (Nat -> Value) -> Prop) (Lb Lb' : List Res) : Prop :=
 ∀ (t : Nat -> Value) (w : World) (LA : List Res), U t -> G (Lb ++ LA) w →
  wpOp P ops Q i (fun a' w' => a'.tmps.size = n /\ a'.defers = [] /\ U' (slot a'.tmps) /\ (∀ al ∈ ls, slot a'.tmps al.d = t al.d) /\ G (Lb' ++ LA) w' /\ S w') { tmps := ((List.range n).map t).toArray, defers := [] } w
def StepP (P : Program) (ops : Array Oper) (n : Nat) (ls : List AllocS) (oi : Oper) (U U' : (Nat -> Value) -> Prop) : Prop :=
 ∀ (t : Nat -> Value), U t -> ∃ v, YieldsIf P ops (fun _ => True) oi v { tmps := ((List.range n).map t).toArray, defers := [] } ∧
  ((Act.put { tmps := ((List.range n).map t).toArray, defers := [] } oi.dst v).tmps.size = n /\ (Act.put { tmps := ((List.range n).map t).toArray, defers := [] } oi.dst v).defers = []) ∧
  U' (slot (Act.put { tmps := ((List.range n).map t).toArray, defers := [] } oi.dst v).tmps) /\ ∀ al ∈ ls, slot (Act.put { tmps := ((List.range n).map t).toArray, defers := [] } oi.dst v).tmps al.d = t al.d
inductive Chain (P : Program) (ops : Array Oper) (Q : Exit -> Act -> World -> Prop) (G : List Res -> World -> Prop) (S : World -> Prop) (V : (Nat -> Value) -> Prop) (n : Nat) (ls : List AllocS) (md : Region.Mode) (l0 : Array Bool) (d : Nat) : List Nat -> List Nat -> ((Nat -> Value) -> Prop) -> List Res -> ((Nat -> Value) -> Prop) -> List Res -> Prop
 | nil (pre : List Nat) (U : (Nat -> Value) -> Prop) (Lb : List Res) (hst : ∀ al ∈ ls, ∀ t v, U t -> U (upd t al.d v)) (hS : ∀ LA w, G (Lb ++ LA) w -> S w) (hV : ∀ t, U t -> V t) : Chain P ops Q G S V n ls md l0 d pre [] U Lb U Lb
 | call (pre : List Nat) (i : Nat) (is : List Nat) (U U' Um : (Nat -> Value) -> Prop) (Lb Lb' Lm : List Res)
   (hst : ∀ al ∈ ls, ∀ t v, U t -> U (upd t al.d v)) (hS : ∀ LA w, G (Lb ++ LA) w -> S w) (hV : ∀ t, U t -> V t) (hc : (Region.ready md ops (mrk l0 (pre ++ ls.map (·.k))) == [i] && (Region.ready md ops (mrk l0 pre)).contains i && decide (i ≠ d) && closedB md ops (mrk l0 pre)) = true)
   (hs : Step P ops Q S G n ls i U U' Lb Lb') (hr : Chain P ops Q G S V n ls md l0 d (pre ++ [i]) is U' Lb' Um Lm) : Chain P ops Q G S V n ls md l0 d pre (i :: is) U Lb Um Lm
 | pure (pre : List Nat) (i : Nat) (oi : Oper) (is : List Nat) (U U' Um : (Nat -> Value) -> Prop) (Lb Lm : List Res) (hi : ops[i]? = some oi)
   (hst : ∀ al ∈ ls, ∀ t v, U t -> U (upd t al.d v)) (hS : ∀ LA w, G (Lb ++ LA) w -> S w) (hV : ∀ t, U t -> V t) (hc : (Region.free md ops (mrk l0 pre) i && (Region.ready md ops (mrk l0 pre)).contains i && decide (i ≠ d) && closedB md ops (mrk l0 pre)) = true)
   (hs : StepP P ops n ls oi U U') (hr : Chain P ops Q G S V n ls md l0 d (pre ++ [i]) is U' Lb Um Lm) : Chain P ops Q G S V n ls md l0 d pre (i :: is) U Lb Um Lm
theorem Chain.callS {P : Program} {ops : Array Oper} {Q : Exit -> Act -> World -> Prop} {G : List Res -> World -> Prop} {S : World -> Prop} {V : (Nat -> Value) -> Prop} {n : Nat} {ls : List AllocS} {md : Region.Mode} {l0 : Array Bool} {d : Nat} {pre : List Nat} (i : Nat) {is : List Nat} {U : (Nat -> Value) -> Prop} (U' : (Nat -> Value) -> Prop) {Um : (Nat -> Value) -> Prop} {Lb Lm : List Res}
  (hst : ∀ al ∈ ls, ∀ t v, U t -> U (upd t al.d v)) (hS : ∀ LA w, G (Lb ++ LA) w -> S w) (hV : ∀ t, U t -> V t) (hc : (Region.ready md ops (mrk l0 (pre ++ ls.map (·.k))) == [i] && (Region.ready md ops (mrk l0 pre)).contains i && decide (i ≠ d) && closedB md ops (mrk l0 pre)) = true)
  (hs : Step P ops Q S G n ls i U U' Lb Lb) (hr : Chain P ops Q G S V n ls md l0 d (pre ++ [i]) is U' Lb Um Lm) : Chain P ops Q G S V n ls md l0 d pre (i :: is) U Lb Um Lm := Chain.call _ _ _ _ U' _ _ Lb _ hst hS hV hc hs hr
theorem Chain.pureS {P : Program} {ops : Array Oper} {Q : Exit -> Act -> World -> Prop} {G : List Res -> World -> Prop} {S : World -> Prop} {V : (Nat -> Value) -> Prop} {n : Nat} {ls : List AllocS} {md : Region.Mode} {l0 : Array Bool} {d : Nat} {pre : List Nat} (i : Nat) {oi : Oper} {is : List Nat} {U : (Nat -> Value) -> Prop} (U' : (Nat -> Value) -> Prop) {Um : (Nat -> Value) -> Prop} {Lb Lm : List Res} (hi : ops[i]? = some oi)
  (hst : ∀ al ∈ ls, ∀ t v, U t -> U (upd t al.d v)) (hS : ∀ LA w, G (Lb ++ LA) w -> S w) (hV : ∀ t, U t -> V t) (hc : (Region.free md ops (mrk l0 pre) i && (Region.ready md ops (mrk l0 pre)).contains i && decide (i ≠ d) && closedB md ops (mrk l0 pre)) = true)
  (hs : StepP P ops n ls oi U U') (hr : Chain P ops Q G S V n ls md l0 d (pre ++ [i]) is U' Lb Um Lm) : Chain P ops Q G S V n ls md l0 d pre (i :: is) U Lb Um Lm := Chain.pure _ _ _ _ _ U' _ _ _ hi hst hS hV hc hs hr
theorem wpOp_stepH {P : Program} {ops : Array Oper} {Q : Exit -> Act -> World -> Prop} {i : Nat} {o : Oper} {K : Act -> World -> Prop} {a : Act} {w : World} (ho : ops[i]? = some o)
  (h : ∀ K' : Act -> World -> Prop, Hid (∀ a w, K a w -> K' a w) -> if Region.wanted o (yielded ops a.tmps) = true then Oper.wp P o a w K' Q else K' (a.put o.dst undef) w) : wpOp P ops Q i K a w := wpOp_step ho fun K' hK => h K' (lhd hK)
end
end Go.Proofs.Ytlefmbjipdlcfaa
/- A call that turns the seed leaves what is in hand in its order. -/
namespace Go.Proofs.Ytlefmbjipdlcfaa
open Go.RowKit
section
variable {w0 A B : World} {L : List Res} {sd : Nat}
theorem Bun.seedAt (i : Nat) {s : Nat} (h : Bun w0 L A) (hi : L[i]? = some (rseed s)) (hg : A.grownBy B (some s)) (hs : SeedAt B s) : Bun w0 L B := by
 have hp := perm_front L i _ hi
 exact ((h.perm hp).seed hg hs).perm hp.symm
theorem Bus.seedAt (i : Nat) {s : Nat} (h : Bus w0 sd L A) (hi : L[i]? = some (rseed s)) (hg : A.grownBy B (some s)) (hs : SeedAt B s) : Bus w0 sd L B := by
 have hp := perm_front L i _ hi
 exact ((h.perm hp).seed hg hs).perm hp.symm
end
end Go.Proofs.Ytlefmbjipdlcfaa
/- What the seed's draws hand back. -/
namespace Go.Proofs.Ytlefmbjipdlcfaa
open Go.RowKit
theorem xor_bd (a b : Int) : 0 <= bits .xor .u64 a b /\ bits .xor .u64 a b < 18446744073709551616 := by
 show 0 <= IntKind.u64.wrap _ /\ IntKind.u64.wrap _ < 18446744073709551616
 rw [IntKind.wrap_u64]
 omega
set_option maxHeartbeats 400000 in
theorem next_c (b : Nat) (w : World) (hs : SeedAt w b) :
  Calls Try.prog 12 #[.pointer (some ⟨b, 0, none⟩)] w (Gen .u64 (fun r => 0 <= r /\ r < 18446744073709551616) b w) := by
 obtain ⟨u, hc, hf⟩ := hs.facts
 go_enter Try.func12, Try.ntmps12
 go_wp2
 go_ret
 exact ⟨_, rfl, xor_bd _ _, hs.set _, gb_setCell (gb_refl _ _) (.inl rfl) _⟩
def belowR (n : Int) (r : Int) : Prop := 0 <= r /\ (r < n ∨ r = 0)
set_option maxHeartbeats 400000 in
theorem below_c (b : Nat) (n : Int) (w : World) (hs : SeedAt w b) (h1 : -9223372036854775808 <= n) (h2 : n <= 9223372036854775807) :
  Calls Try.prog 6 #[.pointer (some ⟨b, 0, none⟩), .int .i64 n] w (Gen .i64 (belowR n) b w) := by
 by_cases hn : n < 2
 ·
  go_enter Try.func6, Try.ntmps6
  go_wp2
  go_ret
  exact ⟨_, rfl, ⟨by simp, by simp⟩, hs, gb_refl _ _⟩
 go_enter Try.func6, Try.ntmps6
 go_wp2_with (go_at_call 12; refine (next_c b _ hs).mono ?_; rintro e w1 ⟨r, rfl, ⟨hr1, hr2⟩, hs1, hg1⟩)
 go_ret
 have e1 : 0 <= r / 2 % n := Int.emod_nonneg _ (by omega)
 have e2 : r / 2 % n < n := Int.emod_lt_of_pos _ (by omega)
 exact ⟨_, rfl, by rw [IntWalk.wrap64_in _ ⟨by omega, by omega⟩]; exact ⟨e1, .inl e2⟩, hs1, hg1⟩
def fromR (low high : Int) (r : Int) : Prop := low <= r /\ (r <= high ∨ r = low)
set_option maxHeartbeats 400000 in
theorem from_c (b : Nat) (low high : Int) (w : World) (hs : SeedAt w b) (h1 : -1000000000000 <= low) (h2 : low <= 1000000000000) (h3 : -1000000000000 <= high) (h4 : high <= 1000000000000) :
  Calls Try.prog 13 #[.pointer (some ⟨b, 0, none⟩), .int .i64 low, .int .i64 high] w (Gen .i64 (fromR low high) b w) := by
 go_enter Try.func13, Try.ntmps13
 go_wp2_with (go_at_call 6; refine (below_c b _ _ hs (by omega) (by omega)).mono ?_; rintro e w1 ⟨r, rfl, ⟨hr1, hr2⟩, hs1, hg1⟩)
 go_ret
 exact ⟨_, rfl, ⟨by omega, by omega⟩, hs1, hg1⟩
set_option maxHeartbeats 400000 in
theorem of_c (b : Nat) (w : World) (hs : SeedAt w b) (g off n c : Nat) (l : Nat -> Int) (h0 : 0 < n) (hn : n <= 9223372036854775807) (hgb : g ≠ b)
  (hl : ∀ i, i < n -> w.cell? ⟨g, off + i, none⟩ = some (.int .i64 (l i))) :
  Calls Try.prog 14 #[.pointer (some ⟨b, 0, none⟩), .slice (some ⟨g, off, none⟩) n c] w (Gen .i64 (fun r => ∃ i, i < n /\ r = l i) b w) := by
 have hgl : g < w.heap.size := cell_lt (hl 0 h0)
 have hl' : ∀ w1 : World, w.grownBy w1 (some b) -> ∀ i, i < n -> w1.cell? ⟨g, off + i, none⟩ = some (.int .i64 (l i)) :=
  fun w1 hg i hi => (gb_cell hg hgl (by simp; omega)).trans (hl i hi)
 have HL := lhd hl'
 clear hl' hl
 go_enter Try.func14, Try.ntmps14
 go_wp2_with (go_at_call 6; refine (below_c b _ _ hs (by omega) (by omega)).mono ?_; rintro e w1 ⟨r, rfl, ⟨hr1, hr2⟩, hs1, hg1⟩; obtain ⟨k, rfl⟩ := Int.eq_ofNat_of_zero_le hr1; have hk : k < n := (by omega); have hcell := HL.out w1 hg1 k hk)
 go_ret
 exact ⟨_, rfl, ⟨k, hk, rfl⟩, hs1, hg1⟩
end Go.Proofs.Ytlefmbjipdlcfaa
/- What the seed's draws of spans hand back. -/
namespace Go.Proofs.Ytlefmbjipdlcfaa
open Go.RowKit
end Go.Proofs.Ytlefmbjipdlcfaa
/- What the seed's draw of a span within bounds hands back. -/
namespace Go.Proofs.Ytlefmbjipdlcfaa
open Go.RowKit
end Go.Proofs.Ytlefmbjipdlcfaa
/- One of two, of three numbers that a literal holds. -/
namespace Go.Proofs.Ytlefmbjipdlcfaa
open Go.RowKit
theorem of2_c (b : Nat) (w : World) (g c : Nat) (x y : Int) (hs : SeedAt w b) (hgb : g ≠ b) (h0 : w.cell? ⟨g, 0, none⟩ = some (.int .i64 x)) (h1 : w.cell? ⟨g, 1, none⟩ = some (.int .i64 y)) :
  Calls Try.prog 14 #[.pointer (some ⟨b, 0, none⟩), .slice (some ⟨g, 0, none⟩) 2 c] w (Gen .i64 (fun r => r = x ∨ r = y) b w) := by
 refine (of_c b w hs g 0 2 c (fun i => [x, y].getD i 0) (by decide) (by decide) hgb (fun i hi => ?_)).mono ?_
 ·
  rcases i with _ | _ | i
  · exact h0
  · exact h1
  · omega
 rintro e w' ⟨r, rfl, ⟨i, hi, rfl⟩, hs, hg⟩
 refine ⟨_, rfl, ?_, hs, hg⟩
 rcases i with _ | _ | i
 · exact .inl rfl
 · exact .inr rfl
 · omega
end Go.Proofs.Ytlefmbjipdlcfaa
/- The kit: newSeed. -/
namespace Go.Proofs.Ytlefmbjipdlcfaa
open Go.RowKit
def NewSeedPost (w : World) (e : Ending) (w' : World) : Prop := ∃ g, e = .returned (.pointer (some ⟨g, 0, none⟩)) /\ w.heap.size <= g /\ SeedAt w' g /\ w.grownBy w' none
set_option maxHeartbeats 400000 in
theorem newSeed_c (lo hi : Nat) (v : Value) (zs : List Int) (w : World) (hv : Ints lo hi w v zs) :
  Calls Try.prog 4 #[v] w (NewSeedPost w) := by
 have hm := hv.len
 unfold maxLen at hm
 rcases Nat.eq_zero_or_pos zs.length with h0 | h0
 ·
  obtain ⟨a, c, rfl, rfl⟩ := hv.nil_ h0
  clear h0 hv
  go_enter Try.func4, Try.ntmps4
  go_wp2
  refine wp_loop_rounds 1 ?_
  rw [rounds_succ]
  go_wp2
  go_ret
  exact ⟨_, rfl, Nat.le_refl _, ⟨1, Bk.new _ _ _⟩, gb_alloc (gb_refl _ _) _⟩
 obtain ⟨b, off, c, rfl, _, _, h3⟩ := Ints.form' hv h0
 have H3 := lhd h3
 clear h3 hv
 go_enter Try.func4, Try.ntmps4
 go_wp2
 go_loopw [4] (fun i wr => ∃ k : Nat, k <= zs.length /\ i = .int .i64 k /\ SeedAt wr w.heap.size /\ w.grownBy wr none) (fun i _ => zs.length - (intOf i).toNat)
 case atStart => exact ⟨0, Nat.zero_le _, rfl, ⟨1, Bk.new _ _ _⟩, gb_alloc (gb_refl _ _) _⟩
 case round =>
  obtain ⟨k, hk, rfl, hs, hg⟩ := hrel
  by_cases hlt : k < zs.length
  ·
   have hcell : wr.cell? ⟨b, off + k, none⟩ = some (.int .i64 zs[k]) := gbc hg (by simp) (H3.out k hlt)
   obtain ⟨u, hu, hf⟩ := hs.facts
   go_wp2_with fail
   go_region
   clear hu hf hcell
   go_wp2_with (go_at_call 12; refine (next_c w.heap.size _ (SeedAt.set hs _).drew).mono ?_; rintro e w1 ⟨r, rfl, hr, hs1, hg1⟩)
   go_roundw
   case rel =>
    have hrel' : ∃ k' : Nat, k' <= zs.length /\ Value.int .i64 ((k : Int) + 1) = .int .i64 k' /\ SeedAt w1 w.heap.size /\ w.grownBy w1 none :=
     ⟨k + 1, by omega, by go_num, hs1, gb_trans' (gb_drew (gb_setCell hg (.inr (Nat.le_refl _)) _)) hg1 (fun g e => by cases e; exact .inr (Nat.le_refl _))⟩
    exact hrel'
   case measure => simp [intOf]; omega
  go_wp2_with fail
  go_ret
  exact ⟨_, rfl, Nat.le_refl _, hs, hg⟩
end Go.Proofs.Ytlefmbjipdlcfaa
