/- Operations of a drawn region that come first: see Reg. -/
import Derived.Test.YtdgplekokdeafaaQReg
import Derived.Test.YtdgplekokdeafaaQBase
import Derived.Maps.AppendAt
import Derived.Deep.AppendLies
import Derived.Deep.Upon
import Derived.RangeFuncNested
import Derived.RangeFuncBound
import Derived.RangeFuncCalls
import Derived.RangeFuncLeaves
import Derived.Shelf.Abstract
import Derived.Shelf.RegionOpen
import Derived.OwnWalkIn
import Derived.TacticsInMore
import Derived.LoopNIn
import Derived.LoopIn
import Derived.Deep.RegionHeld3
import Derived.LoopN
import Derived.Lib.MinMax
import Derived.BigQuiet
import Derived.Deep.QuietTactic
import Derived.OrdersIn
set_option linter.unusedVariables false
set_option linter.unusedSimpArgs false
set_option linter.unnecessarySimpa false
namespace Go.Proofs.Ytdgplekokdeafaa
open Go.RowKit
def Sl {α : Type} (enc : α -> List Value) (sz lo hi : Nat) (w : World) (v : Value) (l : List α) : Prop :=
 l.length <= maxLen /\ ∃ a c, v = .slice a l.length c ∧
  (l = [] ∨ ∃ b off, a = some ⟨b, off, none⟩ /\ lo <= b /\ b < hi /\ ∀ i x, l[i]? = some x -> ∀ j u, (enc x)[j]? = some u -> w.cell? ⟨b, off + i * sz + j, none⟩ = some u)
section
variable {α : Type} {enc : α -> List Value} {sz lo hi : Nat} {w w' : World} {v : Value} {l : List α}
theorem Sl.len (h : Sl enc sz lo hi w v l) : l.length <= maxLen := h.1
theorem Sl.keep (h : Sl enc sz lo hi w v l) (hk : ∀ b o, lo <= b -> b < hi -> ∀ u, w.cell? ⟨b, o, none⟩ = some u -> w'.cell? ⟨b, o, none⟩ = some u) : Sl enc sz lo hi w' v l := by
 obtain ⟨hm, a, c, hv, h⟩ := h
 refine ⟨hm, a, c, hv, ?_⟩
 rcases h with h | ⟨b, off, ha, h1, h2, h3⟩
 · exact .inl h
 · exact .inr ⟨b, off, ha, h1, h2, fun i x hi j u hj => hk b _ h1 h2 u (h3 i x hi j u hj)⟩
theorem Sl.gb {r : Option Nat} (h : Sl enc sz lo hi w v l) (hg : w.grownBy w' r) (hr : ∀ g, r = some g -> g < lo ∨ hi <= g) : Sl enc sz lo hi w' v l :=
 h.keep fun b o h1 h2 u hu => gbc hg (by
  intro e
  have := hr b e.symm
  omega) hu
theorem Sl.alloc (h : Sl enc sz lo hi w v l) (x : Obj) : Sl enc sz lo hi (w.alloc x) v l := h.keep fun b o _ _ u hu => alc x hu
theorem Sl.drew (h : Sl enc sz lo hi w v l) : Sl enc sz lo hi w.drew v l := h
theorem Sl.drewN (h : Sl enc sz lo hi w v l) (n : Nat) : Sl enc sz lo hi (w.drewN n) v l := h
theorem Sl.far (h : Sl enc sz lo hi w v l) {p : Addr} (hp : p.block < lo ∨ hi <= p.block) (u : Value) : Sl enc sz lo hi (w.setCell p u) v l :=
 h.keep fun b o h1 h2 x hx => (World.cell?_setCell_other w p ⟨b, o, none⟩ u (fun e => by
  subst e
  simp only at hp
  omega)).trans hx
theorem Sl.wide {lo' hi' : Nat} (h : Sl enc sz lo hi w v l) (h1 : lo' <= lo) (h2 : hi <= hi') : Sl enc sz lo' hi' w v l := by
 obtain ⟨hm, a, c, hv, h⟩ := h
 refine ⟨hm, a, c, hv, ?_⟩
 rcases h with h | ⟨b, off, ha, h3, h4, h5⟩
 · exact .inl h
 · exact .inr ⟨b, off, ha, by omega, by omega, h5⟩
theorem Sl.form (h : Sl enc sz lo hi w v l) (hne : 0 < l.length) : ∃ b off c, v = .slice (some ⟨b, off, none⟩) l.length c /\ lo <= b /\ b < hi ∧
  ∀ i (hi' : i < l.length) j u, (enc l[i])[j]? = some u -> w.cell? ⟨b, off + i * sz + j, none⟩ = some u := by
 obtain ⟨_, a, c, hv, h⟩ := h
 rcases h with rfl | ⟨b, off, rfl, h1, h2, h3⟩
 · simp at hne
 · exact ⟨b, off, c, hv, h1, h2, fun i hi' j u hj => h3 i l[i] (List.getElem?_eq_getElem hi') j u hj⟩
theorem Sl.nil_ (h : Sl enc sz lo hi w v l) (hne : l.length = 0) : ∃ a c, v = .slice a 0 c /\ l = [] := by
 obtain ⟨_, a, c, hv, _⟩ := h
 rw [hne] at hv
 exact ⟨a, c, hv, List.eq_nil_of_length_eq_zero hne⟩
theorem Sl.any (h : Sl enc sz lo hi w v l) : ∃ a c, v = .slice a l.length c := by
 obtain ⟨_, a, c, hv, _⟩ := h
 exact ⟨a, c, hv⟩
theorem Sl.of_nil (a : Option Addr) (c : Nat) : Sl enc sz lo hi w (.slice a 0 c) [] := ⟨Nat.zero_le _, a, c, rfl, .inl rfl⟩
end
def intEnc (z : Int) : List Value := [.int .i64 z]
abbrev Ints (lo hi : Nat) (w : World) (v : Value) (l : List Int) : Prop := Sl intEnc 1 lo hi w v l
theorem Ints.form' {lo hi : Nat} {w : World} {v : Value} {l : List Int} (h : Ints lo hi w v l) (hne : 0 < l.length) : ∃ b off c, v = .slice (some ⟨b, off, none⟩) l.length c /\ lo <= b /\ b < hi ∧
  ∀ i (hi' : i < l.length), w.cell? ⟨b, off + i, none⟩ = some (.int .i64 l[i]) := by
 obtain ⟨b, off, c, hv, h1, h2, h3⟩ := h.form hne
 refine ⟨b, off, c, hv, h1, h2, fun i hi' => ?_⟩
 have := h3 i hi' 0 _ rfl
 simpa using this
def gi (l : List Int) (i : Nat) : Int := l.getD i 0
theorem gi_get {l : List Int} {i : Nat} (h : i < l.length) : gi l i = l[i] := by simp [gi, h]
theorem Ints.at {lo hi : Nat} {w : World} {v : Value} {l : List Int} (h : Ints lo hi w v l) (hne : 0 < l.length) : ∃ b off c, v = .slice (some ⟨b, off, none⟩) l.length c /\ lo <= b /\ b < hi ∧
  ∀ i, i < l.length -> w.cell? ⟨b, off + i, none⟩ = some (.int .i64 (gi l i)) := by
 obtain ⟨b, off, c, hv, h1, h2, h3⟩ := Ints.form' h hne
 exact ⟨b, off, c, hv, h1, h2, fun i hi' => by rw [gi_get hi']; exact h3 i hi'⟩
structure Sp where
 lo : Int
 hi : Int
 deriving DecidableEq
def Sp.v (s : Sp) : Value := .agg #[.int .i64 s.lo, .int .i64 s.hi]
def spEnc (s : Sp) : List Value := [.int .i64 s.lo, .int .i64 s.hi]
abbrev Sps (lo hi : Nat) (w : World) (v : Value) (l : List Sp) : Prop := Sl spEnc 2 lo hi w v l
theorem Sps.form' {lo hi : Nat} {w : World} {v : Value} {l : List Sp} (h : Sps lo hi w v l) (hne : 0 < l.length) : ∃ b off c, v = .slice (some ⟨b, off, none⟩) l.length c /\ lo <= b /\ b < hi ∧
  ∀ i (hi' : i < l.length), w.cell? ⟨b, off + i * 2, none⟩ = some (.int .i64 l[i].lo) /\ w.cell? ⟨b, off + i * 2 + 1, none⟩ = some (.int .i64 l[i].hi) := by
 obtain ⟨b, off, c, hv, h1, h2, h3⟩ := h.form hne
 exact ⟨b, off, c, hv, h1, h2, fun i hi' => ⟨h3 i hi' 0 _ rfl, h3 i hi' 1 _ rfl⟩⟩
def Ret (v : Value) (w : World) (e : Ending) (w' : World) : Prop := e = .returned v /\ w.grownBy w' none
theorem Sl.of_own {α : Type} {enc : α -> List Value} {sz : Nat} {w : World} {v : Value} {l : List α} {base : Nat} {e : TypeId} (h : w.ownsRow base e sz v l.length (l.flatMap enc)) (hsz : ∀ x, (enc x).length = sz) :
  Sl enc sz base w.heap.size w v l := by
 have hlt := h.lt
 have hc := @World.ownsRow.cells
 obtain ⟨h0, h1⟩ := h
 rcases h1 with ⟨rfl, hn⟩ | ⟨g, cap, cur, rfl, hb, hh, hnc, hcm, hcs, htk⟩
 ·
  obtain rfl : l = [] := List.eq_nil_of_length_eq_zero hn
  exact Sl.of_nil _ _
 refine ⟨by omega, _, cap, rfl, .inr ⟨g, 0, rfl, hb, (hlt g rfl).2, fun i x hi j u hj => ?_⟩⟩
 have key : ∀ (l : List α) (i : Nat) (x : α), l[i]? = some x -> ∀ j u, (enc x)[j]? = some u -> (l.flatMap enc)[i * sz + j]? = some u := by
  intro l
  induction l with
  | nil => intro i x h; simp at h
  | cons y l ih =>
   intro i x hi j u hj
   have hjl : j < sz := by have := (List.getElem?_eq_some_iff.1 hj).1; rw [hsz] at this; exact this
   rw [List.flatMap_cons]
   cases i with
   | zero =>
    simp at hi
    subst hi
    rw [List.getElem?_append_left (by rw [hsz]; omega)]
    simpa using hj
   | succ i =>
    rw [List.getElem?_append_right (by rw [hsz, Nat.succ_mul]; omega), hsz]
    have : (i + 1) * sz + j - sz = i * sz + j := by rw [Nat.succ_mul]; omega
    rw [this]
    exact ih i x (by simpa using hi) j u hj
 have hk := key l i x hi j u hj
 rw [← htk] at hk
 have hk2 : cur.toList[i * sz + j]? = some u := by
  rw [List.getElem?_take] at hk
  split at hk
  · exact hk
  · cases hk
 rw [Nat.zero_add]
 simp only [World.cell?, hh]
 simpa using hk2
structure SF (w0 : World) (sb : Option Nat) (X : Nat -> Prop) (E : World -> Prop) (bx : List (Nat × TypeId × Array Value)) (w : World) : Prop where
 seed : ∀ s, sb = some s -> SeedAt w s /\ w0.heap.size <= s /\ ¬ X s
 box : ∀ b ∈ bx, Bk w b.1 b.2.1 b.2.2 /\ some b.1 ≠ sb /\ ¬ X b.1 /\ w0.heap.size <= b.1
 nodup : (bx.map (·.1)).Nodup
 ext : E w
 mono : ∀ (A B : World) (r : Option Nat), A.grownBy B r -> (∀ g, r = some g -> ¬ X g) -> E A -> E B
 old : ∀ g, X g -> g < w.heap.size
 gb : w0.grownBy w none
section
variable {w0 A B : World} {sb : Option Nat} {X : Nat -> Prop} {E : World -> Prop} {bx : List (Nat × TypeId × Array Value)}
theorem SF.row (h : SF w0 sb X E bx A) {r : Option Nat} (hg : A.grownBy B r) (hX : ∀ g, r = some g -> ¬ X g /\ w0.heap.size <= g) (hs : ∀ s, sb = some s -> SeedAt B s) (hb : ∀ b ∈ bx, some b.1 ≠ r) : SF w0 sb X E bx B :=
 ⟨fun s e => ⟨hs s e, (h.seed s e).2⟩, fun b hm => ⟨(h.box b hm).1.gb hg (hb b hm), (h.box b hm).2⟩, h.nodup, h.mono A B r hg (fun g e => (hX g e).1) h.ext, h.mono,
  fun g hg' => Nat.lt_of_lt_of_le (h.old g hg') hg.size, gb_trans' h.gb hg fun g e => .inr (hX g e).2⟩
theorem SF.gn (h : SF w0 sb X E bx A) (hg : A.grownBy B none) : SF w0 sb X E bx B :=
 h.row hg (fun _ e => by cases e) (fun s e => (h.seed s e).1.gb hg (by simp)) (fun _ _ => by simp)
theorem SF.drew (h : SF w0 sb X E bx A) : SF w0 sb X E bx A.drew := h.gn (gb_drew (gb_refl _ _))
theorem SF.drewN (h : SF w0 sb X E bx A) (n : Nat) : SF w0 sb X E bx (A.drewN n) := h.gn (gb_drewN (gb_refl _ _) n)
theorem SF.alloc (h : SF w0 sb X E bx A) (o : Obj) : SF w0 sb X E bx (A.alloc o) := h.gn (gb_alloc (gb_refl _ _) o)
theorem SF.new (h : SF w0 sb X E bx A) (t : TypeId) (cs : Array Value) : SF w0 sb X E ((A.heap.size, t, cs) :: bx) (A.alloc (.cells cs t)) := by
 have h' := h.alloc (.cells cs t)
 refine ⟨h'.seed, fun b hm => ?_, ?_, h'.ext, h'.mono, h'.old, h'.gb⟩
 ·
  rcases List.mem_cons.1 hm with rfl | hm
  · exact ⟨Bk.new A t cs, fun e => by have := (h.seed _ e.symm).1.lt; omega, fun hx => by have := h.old _ hx; omega, h.gb.size⟩
  · exact h'.box b hm
 rw [List.map_cons, List.nodup_cons]
 refine ⟨fun hm => ?_, h.nodup⟩
 obtain ⟨b, hb, e⟩ := List.mem_map.1 hm
 have := (h.box b hb).1.lt
 omega
theorem SF.newAt (h : SF w0 sb X E bx A) (t : TypeId) (cs : Array Value) {n : Nat} (hn : A.heap.size = n) : SF w0 sb X E ((n, t, cs) :: bx) (A.alloc (.cells cs t)) := hn ▸ h.new t cs
theorem SF.set {g : Nat} {t : TypeId} {cs : Array Value} (h : SF w0 sb X E ((g, t, cs) :: bx) A) (i : Nat) (u : Value) : SF w0 sb X E ((g, t, cs.setIfInBounds i u) :: bx) (A.setCell ⟨g, i, none⟩ u) := by
 have hg := gb_setCell (gb_refl A (some g)) (p := ⟨g, i, none⟩) (.inl rfl) u
 have h0 := h.box (g, t, cs) (by simp)
 have hnd := h.nodup
 rw [List.map_cons, List.nodup_cons] at hnd
 refine ⟨fun s e => ⟨(h.seed s e).1.far (fun e' => h0.2.1 (by rw [e, e'])) _, (h.seed s e).2⟩, fun b hm => ?_, ?_, h.mono A _ _ hg (fun g' e => by cases e; exact h0.2.2.1) h.ext, h.mono, fun g' hx => Nat.lt_of_lt_of_le (h.old g' hx) hg.size,
  gb_trans' h.gb hg fun g' e => by cases e; exact .inr h0.2.2.2⟩
 ·
  rcases List.mem_cons.1 hm with rfl | hm
  · exact ⟨h0.1.set i u, h0.2⟩
  have hb := h.box b (by simp [hm])
  exact ⟨hb.1.far (fun e => hnd.1 (List.mem_map.2 ⟨b, hm, e⟩)) _, hb.2⟩
 rw [List.map_cons, List.nodup_cons]
 exact hnd
theorem SF.perm {bx' : List (Nat × TypeId × Array Value)} (h : SF w0 sb X E bx A) (hp : bx.Perm bx') : SF w0 sb X E bx' A :=
 ⟨h.seed, fun b hm => h.box b (hp.mem_iff.2 hm), (hp.map _).nodup_iff.1 h.nodup, h.ext, h.mono, h.old, h.gb⟩
theorem SF.sub {bx' : List (Nat × TypeId × Array Value)} (h : SF w0 sb X E bx A) (hp : bx'.Sublist bx) : SF w0 sb X E bx' A :=
 ⟨h.seed, fun b hm => h.box b (hp.subset hm), List.Nodup.sublist (hp.map _) h.nodup, h.ext, h.mono, h.old, h.gb⟩
theorem SF.sd {s : Nat} (h : SF w0 (some s) X E bx A) : SeedAt A s := (h.seed s rfl).1
theorem SF.more (h : SF w0 sb X E bx A) (Y : Nat -> Prop) (F : World -> Prop) (hF : F A) (hm : ∀ (A B : World) (r : Option Nat), A.grownBy B r -> (∀ g, r = some g -> ¬ Y g) -> F A -> F B)
  (hY : ∀ g, Y g -> g < A.heap.size /\ some g ≠ sb /\ ∀ b ∈ bx, b.1 ≠ g) : SF w0 sb (fun g => X g ∨ Y g) (fun W => E W /\ F W) bx A :=
 ⟨fun s e => ⟨(h.seed s e).1, (h.seed s e).2.1, fun hx => hx.elim (h.seed s e).2.2 fun hy => (hY s hy).2.1 e.symm⟩,
  fun b hb => ⟨(h.box b hb).1, (h.box b hb).2.1, fun hx => hx.elim (h.box b hb).2.2.1 fun hy => (hY _ hy).2.2 b hb rfl, (h.box b hb).2.2.2⟩, h.nodup, ⟨h.ext, hF⟩,
  fun A B r hg hr hE => ⟨h.mono A B r hg (fun g e hx => hr g e (.inl hx)) hE.1, hm A B r hg (fun g e hy => hr g e (.inr hy)) hE.2⟩,
  fun g hx => hx.elim (h.old g) fun hy => (hY g hy).1, h.gb⟩
end
theorem Ints.cell {lo hi : Nat} {w : World} {x ox n c : Nat} {l : List Int} (h : Ints lo hi w (.slice (some ⟨x, ox, none⟩) n c) l) {i : Nat} (hi' : i < l.length) : w.cell? ⟨x, ox + i, none⟩ = some (.int .i64 (gi l i)) := by
 obtain ⟨x', ox', c', ev, _, _, H⟩ := Ints.at h (by omega)
 injection ev with e1 _ e2
 injection e1 with e1
 injection e1 with e3 e4
 subst e3 e4
 exact H i hi'
structure ElemOk {α : Type} (P : Program) (t e : TypeId) (sz bytes : Nat) (enc : α -> List Value) : Prop where
 under : P.underlying t = some (.slice e)
 info : ∃ (i : TypeInfo) (z : Value), P.info? e = some i /\ i.zero = some z /\ i.size = sz /\ i.bytes = bytes /\ z.cells.size = sz
 pos : 0 < sz
 small : bytes <= 1024
 len : ∀ x, (enc x).length = sz
 one : ∀ x, ∀ u ∈ enc x, u.oneCell' = true
def Own {α : Type} (enc : α -> List Value) (e : TypeId) (sz base : Nat) (w : World) (v : Value) (l : List α) : Prop := w.ownsRow base e sz v l.length (l.flatMap enc)
section
variable {α : Type} {enc : α -> List Value} {e : TypeId} {sz base : Nat} {w w' : World} {v : Value} {l : List α}
theorem Own.nil (enc : α -> List Value) (e : TypeId) (sz base : Nat) (w : World) : Own enc e sz base w (.slice none 0 0) [] := World.ownsRow_nil w base e sz
theorem Own.sl (h : Own enc e sz base w v l) (hsz : ∀ x, (enc x).length = sz) : Sl enc sz base w.heap.size w v l := Sl.of_own h hsz
theorem Own.lt (h : Own enc e sz base w v l) : ∀ k, v.ownBlock = some k -> base <= k /\ k < w.heap.size := World.ownsRow.lt h
theorem Own.gb {r : Option Nat} (h : Own enc e sz base w v l) (hg : w.grownBy w' r) (hr : ∀ k, r = some k -> v.ownBlock ≠ some k) : Own enc e sz base w' v l := by
 refine World.ownsRow.kept h hg ?_
 cases hv : v.ownBlock with
 | none => exact .inl rfl
 | some k => exact .inr fun e => hr k e.symm hv
theorem Own.alloc (h : Own enc e sz base w v l) (o : Obj) : Own enc e sz base (w.alloc o) v l := World.ownsRow.alloc h o
theorem Own.drew (h : Own enc e sz base w v l) : Own enc e sz base w.drew v l := h
theorem Own.drewN (h : Own enc e sz base w v l) (n : Nat) : Own enc e sz base (w.drewN n) v l := h
theorem Own.far (h : Own enc e sz base w v l) {p : Addr} (hp : ∀ k, v.ownBlock = some k -> k ≠ p.block) (u : Value) : Own enc e sz base (w.setCell p u) v l := by
 obtain ⟨h1, h2⟩ := h
 refine ⟨h1, ?_⟩
 rcases h2 with h2 | ⟨g, cap, cur, hv, hb, hg, h3⟩
 · exact .inl h2
 · exact .inr ⟨g, cap, cur, hv, hb, (Below.heap_setCell w p u g (hp g (by rw [hv]; rfl))).trans hg, h3⟩
theorem Own.form (h : Own enc e sz base w v l) (hl : 0 < l.length) : ∃ g cap, v = .slice (some ⟨g, 0, none⟩) l.length cap /\ base <= g /\ g < w.heap.size := World.ownsRow.form h hl
end
theorem flat_len {α : Type} {enc : α -> List Value} {sz : Nat} (h : ∀ x, (enc x).length = sz) (l : List α) : (l.flatMap enc).length = l.length * sz := by
 induction l with
 | nil => simp
 | cons x l ih => rw [List.flatMap_cons, List.length_append, h, ih, List.length_cons, Nat.succ_mul]; omega
section
variable {α : Type} {P : Program} {t e : TypeId} {sz bytes : Nat} {enc : α -> List Value} (w : World)
theorem run_app (ok : ElemOk P t e sz bytes enc) (ty : TypeId) (base : Nat) (v : Value) (l ys : List α) (hown : Own enc e sz base w v l)
  (ad : Addr) (c : Nat) (hm : 0 < ys.length) (hnews : ∀ j u, (ys.flatMap enc)[j]? = some u -> w.cell? (ad.add j) = some u) (hbig : l.length + ys.length <= 100000000000) (hbase : base <= w.heap.size) :
  ∃ g cap w', (Builtin.append_ #[t, t] ty #[v, .slice (some ad) ys.length c]).run P w = .ok (.slice (some ⟨g, 0, none⟩) (l.length + ys.length) cap) w' ∧
   Own enc e sz base w' (.slice (some ⟨g, 0, none⟩) (l.length + ys.length) cap) (l ++ ys) /\ ((v.ownBlock = some g /\ w.grownBy w' (some g)) ∨ (g = w.heap.size /\ w.grownBy w' none)) /\ Own enc e sz base w' v l := by
 obtain ⟨i, z, hi, hz, hsz, hby, hzs⟩ := ok.info
 subst hsz
 subst hby
 have hl : (ys.flatMap enc).length = ys.length * i.size := flat_len ok.len ys
 have hl0 : (l.flatMap enc).length = l.length * i.size := flat_len ok.len l
 have hlen : (l.flatMap enc ++ ys.flatMap enc).length = (l.length + ys.length) * i.size := by rw [List.length_append, hl0, hl, Nat.add_mul]
 have h63 : l.length + ys.length <= maxLen := by simp only [maxLen]; omega
 have hbytes : (l.length + ys.length) * i.bytes <= 140737488355328 := Nat.le_trans (Nat.mul_le_mul hbig ok.small) (by omega)
 have happ : (l ++ ys).flatMap enc = l.flatMap enc ++ ys.flatMap enc := List.flatMap_append
 have hll : (l ++ ys).length = l.length + ys.length := List.length_append
 unfold Own
 rw [happ, hll]
 have grown : ∀ (old : Nat), old < l.length + ys.length →
   (w.drew.alloc (.cells ((l.flatMap enc).toArray ++ (ys.flatMap enc).toArray ++ Builtin.zeroCells z.cells (grownCap w (l.length + ys.length) old e - (l.length + ys.length))) e)).ownsRow base e i.size
    (.slice (some ⟨w.heap.size, 0, none⟩) (l.length + ys.length) (grownCap w (l.length + ys.length) old e)) (l.length + ys.length) (l.flatMap enc ++ ys.flatMap enc) ∧
   w.grownBy (w.drew.alloc (.cells ((l.flatMap enc).toArray ++ (ys.flatMap enc).toArray ++ Builtin.zeroCells z.cells (grownCap w (l.length + ys.length) old e - (l.length + ys.length))) e)) none := by
  intro old ho
  have hge := grownCap_ge w (l.length + ys.length) old e
  have hcm := grownCap_le_maxLen w (l.length + ys.length) old e h63
  refine ⟨⟨hlen, .inr ⟨w.heap.size, _, _, rfl, hbase, Bk.new w.drew e _, hge, hcm, ?_, ?_⟩⟩, gb_alloc (gb_drew (gb_refl _ _)) _⟩
  ·
   simp only [Array.size_append, List.size_toArray, size_zeroCells, hzs, hl0, hl, ← Nat.add_mul]
   congr 1
   omega
  simp only [Array.toList_append, List.append_assoc]
  rw [← List.append_assoc, ← hlen]
  exact List.take_left
 rcases hown.2 with ⟨rfl, h0⟩ | ⟨g, cap, cur, rfl, hbg, hg, hnc, hcm, hcs, htake⟩
 ·
  obtain rfl : l = [] := List.eq_nil_of_length_eq_zero h0
  have hr := run_append_nil (P := P) w t ty e i z ok.under hi hz ad ys.length c _ hl hnews (by omega) (by simp only [List.length_nil] at hbig; omega) (by simp only [List.length_nil, Nat.zero_add] at hbytes; omega)
  have hgr := grown 0 (by omega)
  simp only [List.length_nil, Nat.zero_add, List.flatMap_nil, List.nil_append, Array.empty_append] at hgr ⊢
  exact ⟨_, _, _, hr, hgr.1, .inr ⟨rfl, hgr.2⟩, World.ownsRow_nil _ _ _ _⟩
 by_cases hroom : l.length + ys.length <= cap
 ·
  have hfit : l.length * i.size + (ys.flatMap enc).length <= cur.size := by rw [hl, hcs, ← Nat.add_mul]; exact Nat.mul_le_mul_right _ hroom
  have h1 : ∀ u ∈ ys.flatMap enc, u.oneCell' = true := fun u hu => by
   obtain ⟨x, _, hx⟩ := List.mem_flatMap.1 hu
   exact ok.one x u hx
  have hr := run_append_room (P := P) w t ty e i ok.under hi g l.length cap cur hg ad ys.length c _ hl hnews h1 hroom hfit
  have hsize : (cur.toList.take (l.length * i.size) ++ ys.flatMap enc ++ cur.toList.drop (l.length * i.size + (ys.flatMap enc).length)).toArray.size = cap * i.size := by
   simp only [List.size_toArray, List.length_append, List.length_take, List.length_drop, Array.length_toList]
   omega
  refine ⟨_, _, _, hr, ⟨hlen, .inr ⟨g, cap, _, rfl, hbg, setRow_heap w g cur _ e _ hg, hroom, hcm, hsize, ?_⟩⟩, .inl ⟨rfl, ⟨rfl, rfl, rfl, by simp, fun k _ hk => setRow_other w g k _ (fun e => hk (by simp [e]))⟩⟩, ⟨hl0, .inr ⟨g, cap, _, rfl, hbg, setRow_heap w g cur _ e _ hg, hnc, hcm, hsize, ?_⟩⟩⟩
  ·
   rw [htake, ← hlen]
   exact List.take_left
  rw [htake, List.append_assoc, ← hl0]
  exact List.take_left
 have holds : ∀ j u, (l.flatMap enc)[j]? = some u -> w.cell? ((⟨g, 0, none⟩ : Addr).add j) = some u := World.ownsRow.cells hown (g := g) rfl
 have hr := run_append_grow (P := P) w t ty e i z ok.under hi hz ⟨g, 0, none⟩ l.length cap _ hl0 holds ad ys.length c _ hl hnews (by omega) (by omega) (growslice_fits (by omega) hbytes)
 have hgr := grown cap (by omega)
 exact ⟨_, _, _, hr, hgr.1, .inr ⟨rfl, hgr.2⟩, World.ownsRow.kept hown hgr.2 (.inr (by simp [Value.ownBlock]))⟩
structure AppPost (enc : α -> List Value) (e : TypeId) (sz base : Nat) (w : World) (v : Value) (l ys : List α) (H N g cap : Nat) (w' : World) : Prop where
 own : Own enc e sz base w' (.slice (some ⟨g, 0, none⟩) N cap) (l ++ ys)
 at_ : v.ownBlock = some g ∨ g = H
 gb : w.grownBy w' v.ownBlock
 old : Own enc e sz base w' v l
 lt : g < w'.heap.size
theorem wp_app (ok : ElemOk P t e sz bytes enc) {o : Oper} {a : Act} {K : Act -> World -> Prop} {Q : Exit -> Act -> World -> Prop} (s x : Operand)
  (ho : o.op = .call { callee := .builtin .append, args := #[s, x], argTypes := #[t, t] })
  (base : Nat) (v : Value) (l ys : List α) (hs : a.eval s = v) (hown : Own enc e sz base w v l)
  (ad : Addr) (m c : Nat) (hx : a.eval x = .slice (some ad) m c) (hmy : ys.length = m) (hm : 0 < m) (hnews : ∀ j u, (ys.flatMap enc)[j]? = some u -> w.cell? (ad.add j) = some u) (N : Nat) (hN : l.length + m = N) (hbig : N <= 100000000000) (hbase : base <= w.heap.size) (H : Nat) (hH : w.heap.size = H)
  (h : ∀ g cap w', AppPost enc e sz base w v l ys H N g cap w' -> K (a.put o.dst (.slice (some ⟨g, 0, none⟩) N cap)) w') : o.wp P a w K Q := by
 subst hmy hN
 obtain ⟨g, cap, w', hr, h2, h3, h4⟩ := run_app w ok o.type base v l ys hown ad c hm hnews hbig hbase
 unfold Oper.wp execOp
 simp only [ho, resolve, invoke, builtin, Sem.run_bind, Sem.run_pure, Result.andThen_ok, List.map_toArray, List.map_cons, List.map_nil, hs, hx, hr]
 refine h g cap w' ⟨h2, ?_, ?_, h4, (h2.lt g rfl).2⟩
 ·
  rcases h3 with ⟨h3, _⟩ | ⟨h3, _⟩
  · exact .inl h3
  · exact .inr (h3.trans hH)
 rcases h3 with ⟨h3, h5⟩ | ⟨_, h5⟩
 · rw [h3]; exact h5
 · exact gb_trans' (gb_refl _ _) h5 (fun _ e => by cases e)
theorem wpList_app (ok : ElemOk P t e sz bytes enc) {ops : Array Oper} {rest : List Oper} {o : Oper} {a : Act} {Q : Exit -> Act -> World -> Prop} (hgd : o.guard = none) (s x : Operand)
  (ho : o.op = .call { callee := .builtin .append, args := #[s, x], argTypes := #[t, t] })
  (base : Nat) (v : Value) (l ys : List α) (hs : a.eval s = v) (hown : Own enc e sz base w v l)
  (ad : Addr) (m c : Nat) (hx : a.eval x = .slice (some ad) m c) (hmy : ys.length = m) (hm : 0 < m) (hnews : ∀ j u, (ys.flatMap enc)[j]? = some u -> w.cell? (ad.add j) = some u) (N : Nat) (hN : l.length + m = N) (hbig : N <= 100000000000) (hbase : base <= w.heap.size) (H : Nat) (hH : w.heap.size = H)
  (h : ∀ g cap w', AppPost enc e sz base w v l ys H N g cap w' -> wpList P ops Q rest (a.put o.dst (.slice (some ⟨g, 0, none⟩) N cap)) w') : wpList P ops Q (o :: rest) a w :=
 wpList_plain hgd fun _ hK => wp_app w ok s x ho base v l ys hs hown ad m c hx hmy hm hnews N hN hbig hbase H hH fun g cap w' hp => hK _ _ (h g cap w' hp)
theorem step_app (ok : ElemOk P t e sz bytes enc) {ops : Array Oper} {o : Oper} {a : Act} {K : Act -> World -> Prop} {Q : Exit -> Act -> World -> Prop} {E : Prop} (hgd : o.guard = none) (s x : Operand)
  (ho : o.op = .call { callee := .builtin .append, args := #[s, x], argTypes := #[t, t] })
  (base : Nat) (v : Value) (l ys : List α) (hs : a.eval s = v) (hown : Own enc e sz base w v l)
  (ad : Addr) (m c : Nat) (hx : a.eval x = .slice (some ad) m c) (hmy : ys.length = m) (hm : 0 < m) (hnews : ∀ j u, (ys.flatMap enc)[j]? = some u -> w.cell? (ad.add j) = some u) (N : Nat) (hN : l.length + m = N) (hbig : N <= 100000000000) (hbase : base <= w.heap.size) (H : Nat) (hH : w.heap.size = H)
  (h : ∀ g cap w', AppPost enc e sz base w v l ys H N g cap w' -> K (a.put o.dst (.slice (some ⟨g, 0, none⟩) N cap)) w') :
  if Region.wanted o (yielded ops a.tmps) = true then Oper.wp P o a w K Q else E := by
 have hw : Region.wanted o (yielded ops a.tmps) = true := by simp [Region.wanted, hgd]
 rw [if_pos hw]
 exact wp_app w ok s x ho base v l ys hs hown ad m c hx hmy hm hnews N hN hbig hbase H hH h
end
theorem Own.at {e : TypeId} {base : Nat} {w : World} {g n cap : Nat} {l : List Int} (h : Own intEnc e 1 base w (.slice (some ⟨g, 0, none⟩) n cap) l) {i : Nat} (hi : i < l.length) : w.cell? ⟨g, i, none⟩ = some (.int .i64 (gi l i)) := by
 have hc := World.ownsRow.cells h (g := g) rfl
 have hfl : ∀ (l : List Int) (i : Nat), i < l.length -> (l.flatMap intEnc)[i]? = some (.int .i64 (gi l i)) := by
  intro l
  induction l with
  | nil => intro i h; simp at h
  | cons x l ih =>
   intro i h
   cases i with
   | zero => rfl
   | succ i =>
    have := ih i (by simpa using h)
    simpa [intEnc, gi] using this
 have := hc i _ (hfl l i hi)
 have hadd : (⟨g, 0, none⟩ : Addr).add i = ⟨g, i, none⟩ := by
  unfold Addr.add
  split <;> simp_all
 rwa [hadd] at this
theorem news_of {w : World} {g : Nat} {t : TypeId} {cs : Array Value} (h : Bk w g t cs) : ∀ j u, cs.toList[j]? = some u -> w.cell? ((⟨g, 0, none⟩ : Addr).add j) = some u := World.news_of_block h
theorem info5 {P : Program} {e : TypeId} {z : Value} {size bytes : Nat} (h : (P.info? e).map (fun i => (i.zero, i.size, i.bytes)) = some (some z, size, bytes)) (hz : z.cells.size = size) :
  ∃ (i : TypeInfo) (z : Value), P.info? e = some i /\ i.zero = some z /\ i.size = size /\ i.bytes = bytes /\ z.cells.size = size := by
 obtain ⟨i, h1, h2, h3, h4⟩ := info_parts h
 exact ⟨i, z, h1, h2, h3, h4, hz⟩
/-! ### the element types of this program -/
theorem infoInt : (Try.prog.info? 3).map (fun i => (i.zero, i.size, i.bytes)) = some (some (.int .i64 0), 1, 8) := by kernel_rfl
theorem okInt : ElemOk Try.prog 22 3 1 8 intEnc where
 under := Try.underlying22
 info := info5 infoInt rfl
 pos := by omega
 small := by omega
 len := fun _ => rfl
 one := fun x u hu => by simp [intEnc] at hu; subst hu; rfl
structure Res where
 mine : Bool
 X : Nat -> Prop
 P : World -> Prop
 st : ∀ (A B : World) (r : Option Nat), A.grownBy B r -> (∀ g, r = some g -> ¬ X g) -> P A -> P B
def rbox (g : Nat) (t : TypeId) (cs : Array Value) : Res := ⟨true, fun x => x = g, fun w => Bk w g t cs, fun _ _ _ hg hr h => Bk.gb h hg (fun e => hr g e.symm rfl)⟩
def rseed (s : Nat) : Res := ⟨true, fun x => x = s, fun w => SeedAt w s, fun _ _ _ hg hr h => SeedAt.gb h hg (fun e => hr s e.symm rfl)⟩
def rown {α : Type} (enc : α -> List Value) (e : TypeId) (sz base : Nat) (v : Value) (l : List α) : Res :=
 ⟨true, fun x => v.ownBlock = some x, fun w => Own enc e sz base w v l, fun _ _ _ hg hr h => Own.gb h hg (fun k e e' => hr k e e')⟩
def rsl {α : Type} (enc : α -> List Value) (sz lo hi : Nat) (v : Value) (l : List α) : Res :=
 ⟨false, fun x => lo <= x /\ x < hi, fun w => Sl enc sz lo hi w v l, fun _ _ _ hg hr h => Sl.gb h hg (fun g e => by have := hr g e; omega)⟩
def rext (lo hi : Nat) (E : World -> Prop) (hE : ∀ (A B : World) (r : Option Nat), A.grownBy B r -> (∀ g, r = some g -> ¬ (lo <= g /\ g < hi)) -> E A -> E B) : Res := ⟨false, fun x => lo <= x /\ x < hi, E, hE⟩
structure Bun (w0 : World) (L : List Res) (w : World) : Prop where
 all : ∀ r ∈ L, r.P w
 bd : ∀ r ∈ L, ∀ g, r.X g -> g < w.heap.size /\ (r.mine = true -> w0.heap.size <= g)
 dis : L.Pairwise fun a b => (a.mine = true ∨ b.mine = true) -> ∀ g, a.X g -> ¬ b.X g
 gb : w0.grownBy w none
section
variable {w0 A B : World} {L : List Res}
theorem Bun.nil (w : World) : Bun w [] w := ⟨fun _ h => (by cases h), fun _ h => (by cases h), .nil, gb_refl _ _⟩
theorem Bun.gn (h : Bun w0 L A) (hg : A.grownBy B none) : Bun w0 L B :=
 ⟨fun r hr => r.st A B none hg (fun _ e => by cases e) (h.all r hr), fun r hr g hx => ⟨Nat.lt_of_lt_of_le (h.bd r hr g hx).1 hg.size, (h.bd r hr g hx).2⟩, h.dis, gb_trans h.gb hg⟩
theorem Bun.drew (h : Bun w0 L A) : Bun w0 L A.drew := h.gn (gb_drew (gb_refl _ _))
theorem Bun.drewN (h : Bun w0 L A) (n : Nat) : Bun w0 L (A.drewN n) := h.gn (gb_drewN (gb_refl _ _) n)
theorem Bun.alloc (h : Bun w0 L A) (o : Obj) : Bun w0 L (A.alloc o) := h.gn (gb_alloc (gb_refl _ _) o)
theorem Bun.wr {r r' : Res} {q : Option Nat} (h : Bun w0 (r :: L) A) (hm : r.mine = true) (hg : A.grownBy B q) (hq : ∀ g, q = some g -> r.X g) (hP : r'.P B)
  (hX : ∀ g, r'.X g -> (r.X g ∨ A.heap.size <= g) /\ g < B.heap.size) : Bun w0 (r' :: L) B := by
 have hd := h.dis
 rw [List.pairwise_cons] at hd
 refine ⟨fun x hx => ?_, fun x hx g hxg => ?_, ?_, gb_trans' h.gb hg fun g e => .inr ((h.bd r (.head _) g (hq g e)).2 hm)⟩
 ·
  rcases List.mem_cons.1 hx with rfl | hx
  · exact hP
  · exact x.st A B q hg (fun g e => hd.1 x hx (.inl hm) g (hq g e)) (h.all x (.tail _ hx))
 ·
  rcases List.mem_cons.1 hx with rfl | hx
  ·
   refine ⟨(hX g hxg).2, fun _ => ?_⟩
   rcases (hX g hxg).1 with h1 | h1
   · exact (h.bd r (.head _) g h1).2 hm
   · exact Nat.le_trans h.gb.size h1
  · exact ⟨Nat.lt_of_lt_of_le (h.bd x (.tail _ hx) g hxg).1 hg.size, (h.bd x (.tail _ hx) g hxg).2⟩
 rw [List.pairwise_cons]
 refine ⟨fun x hx _ g hg1 hg2 => ?_, hd.2⟩
 rcases (hX g hg1).1 with h1 | h1
 · exact hd.1 x hx (.inl hm) g h1 hg2
 have := (h.bd x (.tail _ hx) g hg2).1
 omega
theorem Bun.add (r' : Res) (h : Bun w0 L A) (hg : A.grownBy B none) (hP : r'.P B) (hX : ∀ g, r'.X g -> A.heap.size <= g /\ g < B.heap.size) : Bun w0 (r' :: L) B := by
 have hB := h.gn hg
 refine ⟨fun x hx => ?_, fun x hx g hxg => ?_, ?_, hB.gb⟩
 ·
  rcases List.mem_cons.1 hx with rfl | hx
  · exact hP
  · exact hB.all x hx
 ·
  rcases List.mem_cons.1 hx with rfl | hx
  · exact ⟨(hX g hxg).2, fun _ => Nat.le_trans h.gb.size (hX g hxg).1⟩
  · exact hB.bd x hx g hxg
 rw [List.pairwise_cons]
 refine ⟨fun x hx _ g hg1 hg2 => ?_, h.dis⟩
 have := (h.bd x hx g hg2).1
 have := (hX g hg1).1
 omega
theorem Bun.wradd {r r1 : Res} (r' : Res) {q : Option Nat} (h : Bun w0 (r :: L) A) (hm : r.mine = true) (hg : A.grownBy B q) (hq : ∀ g, q = some g -> r.X g) (hP : r1.P B) (hX1 : ∀ g, r1.X g -> r.X g)
  (hP' : r'.P B) (hX : ∀ g, r'.X g -> A.heap.size <= g /\ g < B.heap.size) : Bun w0 (r' :: r1 :: L) B := by
 have hB : Bun w0 (r1 :: L) B := h.wr hm hg hq hP fun g hx => ⟨.inl (hX1 g hx), Nat.lt_of_lt_of_le (h.bd r (.head _) g (hX1 g hx)).1 hg.size⟩
 refine ⟨fun x hx => ?_, fun x hx g hxg => ?_, ?_, hB.gb⟩
 ·
  rcases List.mem_cons.1 hx with rfl | hx
  · exact hP'
  · exact hB.all x hx
 ·
  rcases List.mem_cons.1 hx with rfl | hx
  · exact ⟨(hX g hxg).2, fun _ => Nat.le_trans h.gb.size (hX g hxg).1⟩
  · exact hB.bd x hx g hxg
 rw [List.pairwise_cons]
 refine ⟨fun x hx _ g hg1 hg2 => ?_, hB.dis⟩
 have h1 := (hX g hg1).1
 rcases List.mem_cons.1 hx with rfl | hx
 ·
  have := (h.bd r (.head _) g (hX1 g hg2)).1
  omega
 have := (h.bd x (.tail _ hx) g hg2).1
 omega
theorem Bun.perm {L' : List Res} (h : Bun w0 L A) (hp : L.Perm L') : Bun w0 L' A :=
 ⟨fun r hr => h.all r (hp.mem_iff.2 hr), fun r hr => h.bd r (hp.mem_iff.2 hr), (hp.pairwise_iff (fun h1 h2 g hg hg' => h1 h2.symm g hg' hg)).1 h.dis, h.gb⟩
theorem Bun.sub {L' : List Res} (h : Bun w0 L A) (hp : L'.Sublist L) : Bun w0 L' A := ⟨fun r hr => h.all r (hp.subset hr), fun r hr => h.bd r (hp.subset hr), h.dis.sublist hp, h.gb⟩
theorem perm_front {α : Type} : ∀ (l : List α) (i : Nat) (x : α), l[i]? = some x -> l.Perm (x :: l.eraseIdx i)
 | [], i, x, h => by simp at h
 | y :: l, 0, x, h => by simp at h; subst h; exact List.Perm.refl _
 | y :: l, i + 1, x, h => by
  have h1 := perm_front l i x (by simpa using h)
  exact (List.Perm.cons y h1).trans (List.Perm.swap x y _)
theorem Bun.front (i : Nat) {r : Res} {L' : List Res} (h : Bun w0 L A) (hr : L[i]? = some r) (hL : L.eraseIdx i = L') : Bun w0 (r :: L') A := hL ▸ h.perm (perm_front L i r hr)
theorem Bun.drop (i : Nat) {L' : List Res} (h : Bun w0 L A) (hL : L.eraseIdx i = L') : Bun w0 L' A := hL ▸ h.sub (List.eraseIdx_sublist _ _)
theorem Bun.at (i : Nat) {r : Res} (h : Bun w0 L A) (hr : L[i]? = some r) : r.P A := h.all r (List.mem_of_getElem? hr)
theorem Bun.ltAt (i : Nat) {r : Res} (h : Bun w0 L A) (hr : L[i]? = some r) (g : Nat) (hx : r.X g) : g < A.heap.size /\ (r.mine = true -> w0.heap.size <= g) := h.bd r (List.mem_of_getElem? hr) g hx
theorem Bun.neAt (i j : Nat) {r r' : Res} (h : Bun w0 L A) (hr : L[i]? = some r) (hr' : L[j]? = some r') (hij : i ≠ j) (hm : r.mine = true ∨ r'.mine = true) (g : Nat) (hx : r.X g) : ¬ r'.X g := by
 have key : ∀ (i j : Nat) (r r' : Res), L[i]? = some r -> L[j]? = some r' -> i < j -> (r.mine = true ∨ r'.mine = true) -> ∀ g, r.X g -> ¬ r'.X g := fun i j r r' hr hr' hlt hm => by
  have hi := List.getElem?_eq_some_iff.1 hr
  have hj := List.getElem?_eq_some_iff.1 hr'
  have := List.pairwise_iff_getElem.1 h.dis i j hi.1 hj.1 hlt
  rw [hi.2, hj.2] at this
  exact this hm
 rcases Nat.lt_or_gt_of_ne hij with h1 | h1
 · exact key i j r r' hr hr' h1 hm g hx
 · exact fun hx' => key j i r' r hr' hr h1 hm.symm g hx' hx
theorem Bun.pick (is : List Nat) {L' : List Res} (h : Bun w0 L A) (hn : is.Nodup) (hL : is.map (fun i => L[i]?) = L'.map some) : Bun w0 L' A := by
 have hlen : is.length = L'.length := by have := congrArg List.length hL; simpa using this
 have g : ∀ k (hk : k < L'.length), L[is[k]'(by omega)]? = some L'[k] := fun k hk => by
  have h1 : (is.map (fun i => L[i]?))[k]? = (L'.map some)[k]? := by rw [hL]
  rw [List.getElem?_map, List.getElem?_map, List.getElem?_eq_getElem (by omega : k < is.length), List.getElem?_eq_getElem hk] at h1
  simpa using h1
 have m : ∀ r ∈ L', ∃ i, L[i]? = some r := fun r hr => by
  obtain ⟨k, hk, rfl⟩ := List.getElem_of_mem hr
  exact ⟨_, g k hk⟩
 refine ⟨fun r hr => ?_, fun r hr => ?_, ?_, h.gb⟩
 ·
  obtain ⟨i, hi⟩ := m r hr
  exact h.all r (List.mem_of_getElem? hi)
 ·
  obtain ⟨i, hi⟩ := m r hr
  exact h.bd r (List.mem_of_getElem? hi)
 rw [List.pairwise_iff_getElem]
 intro i j hi hj hij hm gg hx
 have hne : is[i]'(by omega) ≠ is[j]'(by omega) := List.pairwise_iff_getElem.1 hn i j (by omega) (by omega) hij
 exact h.neAt _ _ (g i hi) (g j hj) hne hm gg hx
/-! the kinds -/
theorem Bun.new (h : Bun w0 L A) (t : TypeId) (cs : Array Value) {n : Nat} (hn : A.heap.size = n) : Bun w0 (rbox n t cs :: L) (A.alloc (.cells cs t)) := by
 subst hn
 refine h.add (rbox _ t cs) (gb_alloc (gb_refl _ _) _) (Bk.new A t cs) (fun g e => ?_)
 cases e
 simp
theorem Bun.set {g : Nat} {t : TypeId} {cs : Array Value} (h : Bun w0 (rbox g t cs :: L) A) (i : Nat) (u : Value) : Bun w0 (rbox g t (cs.setIfInBounds i u) :: L) (A.setCell ⟨g, i, none⟩ u) := by
 have hb : Bk A g t cs := h.all _ (.head _)
 refine h.wr rfl (gb_setCell (gb_refl A (some g)) (p := ⟨g, i, none⟩) (.inl rfl) u) (fun g' e => by cases e; rfl) (Bk.set hb i u) (fun g' e => ⟨.inl e, ?_⟩)
 cases e
 simpa [World.setCell] using hb.lt
theorem Bun.seed {s : Nat} (h : Bun w0 (rseed s :: L) A) (hg : A.grownBy B (some s)) (hs : SeedAt B s) : Bun w0 (rseed s :: L) B :=
 h.wr rfl hg (fun _ e => by cases e; rfl) hs fun g e => ⟨.inl e, by cases e; exact hs.lt⟩
theorem Bun.seedAdd {s : Nat} (r' : Res) (h : Bun w0 (rseed s :: L) A) (hg : A.grownBy B (some s)) (hs : SeedAt B s) (hP : r'.P B) (hX : ∀ g, r'.X g -> A.heap.size <= g /\ g < B.heap.size) : Bun w0 (r' :: rseed s :: L) B :=
 h.wradd r' rfl hg (fun _ e => by cases e; rfl) hs (fun _ e => e) hP hX
theorem rext_in {lo hi a b : Nat} {E : World -> Prop} {hE} (h1 : a <= lo) (h2 : hi <= b) : ∀ g, (rext lo hi E hE).X g -> a <= g /\ g < b := fun g hx => by
 have := hx
 simp only [rext] at this
 omega
theorem Bun.app {α : Type} {enc : α -> List Value} {e : TypeId} {sz base base' : Nat} {v : Value} {l ys : List α} {H N g cap : Nat} (h : Bun w0 (rown enc e sz base v l :: L) A) (hp : AppPost enc e sz base' A v l ys H N g cap B) (hH : A.heap.size <= H) :
  Bun w0 (rown enc e sz base' (.slice (some ⟨g, 0, none⟩) N cap) (l ++ ys) :: L) B :=
 h.wr rfl hp.gb (fun k e => e) hp.own fun k e => ⟨by
  have e' : g = k := by simpa [rown, Value.ownBlock] using e
  subst e'
  rcases hp.at_ with h1 | h1
  · exact .inl h1
  · exact .inr (by omega), by
  have e' : g = k := by simpa [rown, Value.ownBlock] using e
  subst e'
  exact hp.lt⟩
end
section
variable {α : Type} {enc : α -> List Value} {e : TypeId} {sz base : Nat}
theorem flat_set (hlen : ∀ x, (enc x).length = sz) : ∀ (l : List α) (i : Nat) (x y : α) (j : Nat) (u : Value), l[i]? = some x -> j < sz -> enc y = (enc x).set j u -> (l.flatMap enc).set (i * sz + j) u = (l.set i y).flatMap enc := by
 intro l
 induction l with
 | nil => intro i x y j u h; simp at h
 | cons z l ih =>
  intro i x y j u h hj hy
  cases i with
  | zero =>
   simp at h
   subst h
   rw [List.set_cons_zero, List.flatMap_cons, List.flatMap_cons, hy, Nat.zero_mul, Nat.zero_add, List.set_append_left _ _ (by rw [hlen]; exact hj)]
  | succ i =>
   rw [List.set_cons_succ, List.flatMap_cons, List.flatMap_cons, List.set_append_right _ _ (by rw [hlen, Nat.succ_mul]; omega), hlen]
   rw [show (i + 1) * sz + j - sz = i * sz + j by rw [Nat.succ_mul]; omega]
   rw [ih i x y j u (by simpa using h) hj hy]
theorem Own.set {w : World} {g n cap : Nat} {l : List α} (hlen : ∀ x, (enc x).length = sz) (h : Own enc e sz base w (.slice (some ⟨g, 0, none⟩) n cap) l) {i j : Nat} {x y : α} {u : Value} (hx : l[i]? = some x) (hj : j < sz) (hy : enc y = (enc x).set j u) :
  Own enc e sz base (w.setCell ⟨g, i * sz + j, none⟩ u) (.slice (some ⟨g, 0, none⟩) n cap) (l.set i y) := by
 obtain ⟨h0, h1⟩ := h
 have hil := (List.getElem?_eq_some_iff.1 hx).1
 rcases h1 with ⟨h1, _⟩ | ⟨g', cap', cur, hv, hb, hh, hnc, hcm, hcs, htk⟩
 · cases h1
 injection hv with e1 e2 e3
 injection e1 with e1
 injection e1 with e1
 subst e1 e2 e3
 refine ⟨?_, .inr ⟨g, cap, cur.setIfInBounds (i * sz + j) u, by simp, hb, ?_, by simpa using hnc, hcm, by simpa using hcs, ?_⟩⟩
 · rw [flat_len hlen]
 · simp [World.setCell, Array.getElem?_modify, hh]
 rw [List.length_set, ← flat_set hlen l i x y j u hx hj hy, ← htk]
 rw [Array.toList_setIfInBounds, List.take_set]
theorem Bun.setOwn {w0 w : World} {L : List Res} {g n cap : Nat} {l : List α} (hlen : ∀ x, (enc x).length = sz) (h : Bun w0 (rown enc e sz base (.slice (some ⟨g, 0, none⟩) n cap) l :: L) w) {i j : Nat} {x y : α} {u : Value} (hx : l[i]? = some x) (hj : j < sz) (hy : enc y = (enc x).set j u) {k : Nat} (hk : i * sz + j = k) :
  Bun w0 (rown enc e sz base (.slice (some ⟨g, 0, none⟩) n cap) (l.set i y) :: L) (w.setCell ⟨g, k, none⟩ u) := by
 subst hk
 have ho : Own enc e sz base w (.slice (some ⟨g, 0, none⟩) n cap) l := h.at 0 rfl
 have h2 := Own.set hlen ho hx hj hy
 refine h.wr rfl (gb_setCell (gb_refl w (some g)) (p := ⟨g, i * sz + j, none⟩) (.inl rfl) u) (fun g' e => by cases e; rfl) h2 fun k e => ?_
 exact ⟨.inl e, (h2.lt k e).2⟩
theorem Own.live {w : World} {g n cap : Nat} {l : List α} (h : Own enc e sz base w (.slice (some ⟨g, 0, none⟩) n cap) l) (o : Nat) : w.frozen? ⟨g, o, none⟩ = false := by
 obtain ⟨h0, h1⟩ := h
 rcases h1 with ⟨h1, _⟩ | ⟨g', cap', cur, hv, hb, hh, _⟩
 · cases h1
 injection hv with e1
 injection e1 with e1
 injection e1 with e1
 subst e1
 simp [World.frozen?, hh]
end
section
variable {α : Type} {P : Program} {t e : TypeId} {sz bytes : Nat} {enc : α -> List Value} (w : World)
theorem Own.empty (enc : α -> List Value) (e : TypeId) (sz base : Nat) {w : World} {g : Nat} (hg : Bk w g e #[]) (hb : base <= g) : Own enc e sz base w (.slice (some ⟨g, 0, none⟩) 0 0) [] :=
 ⟨by simp, .inr ⟨g, 0, #[], rfl, hb, hg, Nat.le_refl _, Nat.zero_le _, by simp, by simp⟩⟩
theorem run_copy (ok : ElemOk P t e sz bytes enc) (ty : TypeId) (base g : Nat) (hg : Bk w g e #[]) (lo hi : Nat) (v : Value) (l : List α) (hl : Sl enc sz lo hi w v l) (hbig : l.length <= 100000000000) (hb : base <= g) :
  ∃ v' w', (Builtin.append_ #[t, t] ty #[.slice (some ⟨g, 0, none⟩) 0 0, v]).run P w = .ok v' w' /\ Own enc e sz base w' v' l /\ w.grownBy w' (some g) := by
 have hgl := hg.lt
 by_cases h0 : l.length = 0
 ·
  obtain ⟨a, c, rfl, rfl⟩ := hl.nil_ h0
  obtain ⟨i, z, hi, hz, hsz, hby, hzs⟩ := ok.info
  refine ⟨.slice (some ⟨g, 0, none⟩) 0 0, w, ?_, Own.empty enc e sz base hg hb, gb_refl _ _⟩
  cases a <;> simp [Builtin.append_, run_underlying ok.under, sizeOf, typeInfo, hi, storeCells, loadCells, loadCellsFrom, Builtin.lenOf, Builtin.firstCells]
 obtain ⟨b, off, c, rfl, h1, h2, h3⟩ := hl.form (by omega)
 have hfl : ∀ (l : List α) (j : Nat) (u : Value), (l.flatMap enc)[j]? = some u -> ∃ i k x, l[i]? = some x /\ (enc x)[k]? = some u /\ j = i * sz + k := by
  intro l
  induction l with
  | nil => intro j u h; simp at h
  | cons x l ih =>
   intro j u h
   rw [List.flatMap_cons] at h
   by_cases hj : j < sz
   ·
    rw [List.getElem?_append_left (by rw [ok.len]; exact hj)] at h
    exact ⟨0, j, x, rfl, h, by omega⟩
   rw [List.getElem?_append_right (by rw [ok.len]; omega), ok.len] at h
   obtain ⟨i, k, y, h1, h2, h3⟩ := ih _ _ h
   exact ⟨i + 1, k, y, h1, h2, by rw [Nat.add_mul]; omega⟩
 obtain ⟨g', cap, w', hr, h4, h5, h6⟩ := run_app w ok ty base (.slice (some ⟨g, 0, none⟩) 0 0) [] l (Own.empty enc e sz base hg hb) ⟨b, off, none⟩ c (by omega) (fun j u hj => by
  obtain ⟨i, k, x, e1, e2, rfl⟩ := hfl l j u hj
  have hi := (List.getElem?_eq_some_iff.1 e1)
  obtain ⟨hi, rfl⟩ := hi
  have := h3 i hi k u e2
  have hadd : (⟨b, off, none⟩ : Addr).add (i * sz + k) = ⟨b, off + i * sz + k, none⟩ := by
   unfold Addr.add
   split <;> simp_all <;> omega
  rw [hadd]
  exact this) (by simpa using hbig) (by omega)
 refine ⟨_, w', hr, by simpa using h4, ?_⟩
 rcases h5 with ⟨h5, h7⟩ | ⟨h5, h7⟩
 ·
  simp [Value.ownBlock] at h5
  subst h5
  exact h7
 · exact gb_trans' (gb_refl _ _) h7 (fun _ e => by cases e)
end
section
variable {α : Type} {P : Program} {t e : TypeId} {sz bytes : Nat} {enc : α -> List Value}
theorem copy_block {w : World} {g base : Nat} {v' : Value} {l : List α} {w' : World} (ok : ElemOk P t e sz bytes enc) (ty : TypeId) (hg : Bk w g e #[]) (lo hi : Nat) (v : Value) (hl : Sl enc sz lo hi w v l) (hbig : l.length <= 100000000000) (hb : base <= g)
  (hr : (Builtin.append_ #[t, t] ty #[.slice (some ⟨g, 0, none⟩) 0 0, v]).run P w = .ok v' w') : ∀ k, v'.ownBlock = some k -> k = g ∨ w.heap.size <= k := by
 by_cases h0 : l.length = 0
 ·
  obtain ⟨a, c, rfl, rfl⟩ := hl.nil_ h0
  obtain ⟨i, z, hi, hz, hsz, hby, hzs⟩ := ok.info
  have : (Builtin.append_ #[t, t] ty #[.slice (some ⟨g, 0, none⟩) 0 0, .slice a 0 c]).run P w = .ok (.slice (some ⟨g, 0, none⟩) 0 0) w := by
   cases a <;> simp [Builtin.append_, run_underlying ok.under, sizeOf, typeInfo, hi, storeCells, loadCells, loadCellsFrom, Builtin.lenOf, Builtin.firstCells]
  rw [this] at hr
  injection hr with hr _
  subst hr
  intro k hk
  simp [Value.ownBlock] at hk
  exact .inl hk.symm
 obtain ⟨b, off, c, rfl, h1, h2, h3⟩ := hl.form (by omega)
 have hfl : ∀ (l : List α) (j : Nat) (u : Value), (l.flatMap enc)[j]? = some u -> ∃ i k x, l[i]? = some x /\ (enc x)[k]? = some u /\ j = i * sz + k := by
  intro l
  induction l with
  | nil => intro j u h; simp at h
  | cons x l ih =>
   intro j u h
   rw [List.flatMap_cons] at h
   by_cases hj : j < sz
   ·
    rw [List.getElem?_append_left (by rw [ok.len]; exact hj)] at h
    exact ⟨0, j, x, rfl, h, by omega⟩
   rw [List.getElem?_append_right (by rw [ok.len]; omega), ok.len] at h
   obtain ⟨i, k, y, h1, h2, h3⟩ := ih _ _ h
   exact ⟨i + 1, k, y, h1, h2, by rw [Nat.add_mul]; omega⟩
 obtain ⟨g', cap, w2, hr2, h4, h5, h6⟩ := run_app w ok ty base (.slice (some ⟨g, 0, none⟩) 0 0) [] l (Own.empty enc e sz base hg hb) ⟨b, off, none⟩ c (by omega) (fun j u hj => by
  obtain ⟨i, k, x, e1, e2, rfl⟩ := hfl l j u hj
  have hi := (List.getElem?_eq_some_iff.1 e1)
  obtain ⟨hi, rfl⟩ := hi
  have := h3 i hi k u e2
  have hadd : (⟨b, off, none⟩ : Addr).add (i * sz + k) = ⟨b, off + i * sz + k, none⟩ := by
   unfold Addr.add
   split <;> simp_all <;> omega
  rw [hadd]
  exact this) (by simpa using hbig) (by have := hg.lt; omega)
 rw [hr2] at hr
 injection hr with hr _
 subst hr
 intro k hk
 simp [Value.ownBlock] at hk
 subst hk
 rcases h5 with ⟨h5, _⟩ | ⟨h5, _⟩
 ·
  simp [Value.ownBlock] at h5
  exact .inl h5.symm
 · exact .inr (by omega)
end
structure Bus (w0 : World) (sd : Nat) (L : List Res) (w : World) : Prop where
 all : ∀ r ∈ L, r.P w
 bd : ∀ r ∈ L, ∀ g, r.X g -> g < w.heap.size /\ (r.mine = true -> w0.heap.size <= g ∨ g = sd)
 dis : L.Pairwise fun a b => (a.mine = true ∨ b.mine = true) -> ∀ g, a.X g -> ¬ b.X g
 gb : w0.grownBy w (some sd)
section
variable {w0 A B : World} {L : List Res} {sd : Nat}
theorem Bus.nil (w : World) : Bus w sd [] w := ⟨fun _ h => (by cases h), fun _ h => (by cases h), .nil, gb_refl _ _⟩
theorem Bus.gn (h : Bus w0 sd L A) (hg : A.grownBy B none) : Bus w0 sd L B :=
 ⟨fun r hr => r.st A B none hg (fun _ e => by cases e) (h.all r hr), fun r hr g hx => ⟨Nat.lt_of_lt_of_le (h.bd r hr g hx).1 hg.size, (h.bd r hr g hx).2⟩, h.dis, gb_none h.gb hg⟩
theorem Bus.drew (h : Bus w0 sd L A) : Bus w0 sd L A.drew := h.gn (gb_drew (gb_refl _ _))
theorem Bus.drewN (h : Bus w0 sd L A) (n : Nat) : Bus w0 sd L (A.drewN n) := h.gn (gb_drewN (gb_refl _ _) n)
theorem Bus.alloc (h : Bus w0 sd L A) (o : Obj) : Bus w0 sd L (A.alloc o) := h.gn (gb_alloc (gb_refl _ _) o)
theorem Bus.wr {r r' : Res} {q : Option Nat} (h : Bus w0 sd (r :: L) A) (hm : r.mine = true) (hg : A.grownBy B q) (hq : ∀ g, q = some g -> r.X g) (hP : r'.P B)
  (hX : ∀ g, r'.X g -> (r.X g ∨ A.heap.size <= g) /\ g < B.heap.size) : Bus w0 sd (r' :: L) B := by
 have hd := h.dis
 rw [List.pairwise_cons] at hd
 refine ⟨fun x hx => ?_, fun x hx g hxg => ?_, ?_, gb_trans' h.gb hg fun g e => ((h.bd r (.head _) g (hq g e)).2 hm).symm.imp (fun h => by rw [h]) id⟩
 ·
  rcases List.mem_cons.1 hx with rfl | hx
  · exact hP
  · exact x.st A B q hg (fun g e => hd.1 x hx (.inl hm) g (hq g e)) (h.all x (.tail _ hx))
 ·
  rcases List.mem_cons.1 hx with rfl | hx
  ·
   refine ⟨(hX g hxg).2, fun _ => ?_⟩
   rcases (hX g hxg).1 with h1 | h1
   · exact (h.bd r (.head _) g h1).2 hm
   · exact .inl (Nat.le_trans h.gb.size h1)
  · exact ⟨Nat.lt_of_lt_of_le (h.bd x (.tail _ hx) g hxg).1 hg.size, (h.bd x (.tail _ hx) g hxg).2⟩
 rw [List.pairwise_cons]
 refine ⟨fun x hx _ g hg1 hg2 => ?_, hd.2⟩
 rcases (hX g hg1).1 with h1 | h1
 · exact hd.1 x hx (.inl hm) g h1 hg2
 have := (h.bd x (.tail _ hx) g hg2).1
 omega
theorem Bus.add (r' : Res) (h : Bus w0 sd L A) (hg : A.grownBy B none) (hP : r'.P B) (hX : ∀ g, r'.X g -> A.heap.size <= g /\ g < B.heap.size) : Bus w0 sd (r' :: L) B := by
 have hB := h.gn hg
 refine ⟨fun x hx => ?_, fun x hx g hxg => ?_, ?_, hB.gb⟩
 ·
  rcases List.mem_cons.1 hx with rfl | hx
  · exact hP
  · exact hB.all x hx
 ·
  rcases List.mem_cons.1 hx with rfl | hx
  · exact ⟨(hX g hxg).2, fun _ => .inl (Nat.le_trans h.gb.size (hX g hxg).1)⟩
  · exact hB.bd x hx g hxg
 rw [List.pairwise_cons]
 refine ⟨fun x hx _ g hg1 hg2 => ?_, h.dis⟩
 have := (h.bd x hx g hg2).1
 have := (hX g hg1).1
 omega
theorem Bus.wradd {r r1 : Res} (r' : Res) {q : Option Nat} (h : Bus w0 sd (r :: L) A) (hm : r.mine = true) (hg : A.grownBy B q) (hq : ∀ g, q = some g -> r.X g) (hP : r1.P B) (hX1 : ∀ g, r1.X g -> r.X g)
  (hP' : r'.P B) (hX : ∀ g, r'.X g -> A.heap.size <= g /\ g < B.heap.size) : Bus w0 sd (r' :: r1 :: L) B := by
 have hB : Bus w0 sd (r1 :: L) B := h.wr hm hg hq hP fun g hx => ⟨.inl (hX1 g hx), Nat.lt_of_lt_of_le (h.bd r (.head _) g (hX1 g hx)).1 hg.size⟩
 refine ⟨fun x hx => ?_, fun x hx g hxg => ?_, ?_, hB.gb⟩
 ·
  rcases List.mem_cons.1 hx with rfl | hx
  · exact hP'
  · exact hB.all x hx
 ·
  rcases List.mem_cons.1 hx with rfl | hx
  · exact ⟨(hX g hxg).2, fun _ => .inl (Nat.le_trans h.gb.size (hX g hxg).1)⟩
  · exact hB.bd x hx g hxg
 rw [List.pairwise_cons]
 refine ⟨fun x hx _ g hg1 hg2 => ?_, hB.dis⟩
 have h1 := (hX g hg1).1
 rcases List.mem_cons.1 hx with rfl | hx
 ·
  have := (h.bd r (.head _) g (hX1 g hg2)).1
  omega
 have := (h.bd x (.tail _ hx) g hg2).1
 omega
theorem Bus.perm {L' : List Res} (h : Bus w0 sd L A) (hp : L.Perm L') : Bus w0 sd L' A :=
 ⟨fun r hr => h.all r (hp.mem_iff.2 hr), fun r hr => h.bd r (hp.mem_iff.2 hr), (hp.pairwise_iff (fun h1 h2 g hg hg' => h1 h2.symm g hg' hg)).1 h.dis, h.gb⟩
theorem Bus.sub {L' : List Res} (h : Bus w0 sd L A) (hp : L'.Sublist L) : Bus w0 sd L' A := ⟨fun r hr => h.all r (hp.subset hr), fun r hr => h.bd r (hp.subset hr), h.dis.sublist hp, h.gb⟩
theorem perm_front' {α : Type} : ∀ (l : List α) (i : Nat) (x : α), l[i]? = some x -> l.Perm (x :: l.eraseIdx i)
 | [], i, x, h => by simp at h
 | y :: l, 0, x, h => by simp at h; subst h; exact List.Perm.refl _
 | y :: l, i + 1, x, h => by
  have h1 := perm_front' l i x (by simpa using h)
  exact (List.Perm.cons y h1).trans (List.Perm.swap x y _)
theorem Bus.front (i : Nat) {r : Res} {L' : List Res} (h : Bus w0 sd L A) (hr : L[i]? = some r) (hL : L.eraseIdx i = L') : Bus w0 sd (r :: L') A := hL ▸ h.perm (perm_front' L i r hr)
theorem Bus.drop (i : Nat) {L' : List Res} (h : Bus w0 sd L A) (hL : L.eraseIdx i = L') : Bus w0 sd L' A := hL ▸ h.sub (List.eraseIdx_sublist _ _)
theorem Bus.at (i : Nat) {r : Res} (h : Bus w0 sd L A) (hr : L[i]? = some r) : r.P A := h.all r (List.mem_of_getElem? hr)
theorem Bus.ltAt (i : Nat) {r : Res} (h : Bus w0 sd L A) (hr : L[i]? = some r) (g : Nat) (hx : r.X g) : g < A.heap.size /\ (r.mine = true -> w0.heap.size <= g ∨ g = sd) := h.bd r (List.mem_of_getElem? hr) g hx
theorem Bus.neAt (i j : Nat) {r r' : Res} (h : Bus w0 sd L A) (hr : L[i]? = some r) (hr' : L[j]? = some r') (hij : i ≠ j) (hm : r.mine = true ∨ r'.mine = true) (g : Nat) (hx : r.X g) : ¬ r'.X g := by
 have key : ∀ (i j : Nat) (r r' : Res), L[i]? = some r -> L[j]? = some r' -> i < j -> (r.mine = true ∨ r'.mine = true) -> ∀ g, r.X g -> ¬ r'.X g := fun i j r r' hr hr' hlt hm => by
  have hi := List.getElem?_eq_some_iff.1 hr
  have hj := List.getElem?_eq_some_iff.1 hr'
  have := List.pairwise_iff_getElem.1 h.dis i j hi.1 hj.1 hlt
  rw [hi.2, hj.2] at this
  exact this hm
 rcases Nat.lt_or_gt_of_ne hij with h1 | h1
 · exact key i j r r' hr hr' h1 hm g hx
 · exact fun hx' => key j i r' r hr' hr h1 hm.symm g hx' hx
theorem Bus.pick (is : List Nat) {L' : List Res} (h : Bus w0 sd L A) (hn : is.Nodup) (hL : is.map (fun i => L[i]?) = L'.map some) : Bus w0 sd L' A := by
 have hlen : is.length = L'.length := by have := congrArg List.length hL; simpa using this
 have g : ∀ k (hk : k < L'.length), L[is[k]'(by omega)]? = some L'[k] := fun k hk => by
  have h1 : (is.map (fun i => L[i]?))[k]? = (L'.map some)[k]? := by rw [hL]
  rw [List.getElem?_map, List.getElem?_map, List.getElem?_eq_getElem (by omega : k < is.length), List.getElem?_eq_getElem hk] at h1
  simpa using h1
 have m : ∀ r ∈ L', ∃ i, L[i]? = some r := fun r hr => by
  obtain ⟨k, hk, rfl⟩ := List.getElem_of_mem hr
  exact ⟨_, g k hk⟩
 refine ⟨fun r hr => ?_, fun r hr => ?_, ?_, h.gb⟩
 ·
  obtain ⟨i, hi⟩ := m r hr
  exact h.all r (List.mem_of_getElem? hi)
 ·
  obtain ⟨i, hi⟩ := m r hr
  exact h.bd r (List.mem_of_getElem? hi)
 rw [List.pairwise_iff_getElem]
 intro i j hi hj hij hm gg hx
 have hne : is[i]'(by omega) ≠ is[j]'(by omega) := List.pairwise_iff_getElem.1 hn i j (by omega) (by omega) hij
 exact h.neAt _ _ (g i hi) (g j hj) hne hm gg hx
/-! the kinds -/
theorem Bus.new (h : Bus w0 sd L A) (t : TypeId) (cs : Array Value) {n : Nat} (hn : A.heap.size = n) : Bus w0 sd (rbox n t cs :: L) (A.alloc (.cells cs t)) := by
 subst hn
 refine h.add (rbox _ t cs) (gb_alloc (gb_refl _ _) _) (Bk.new A t cs) (fun g e => ?_)
 cases e
 simp
theorem Bus.set {g : Nat} {t : TypeId} {cs : Array Value} (h : Bus w0 sd (rbox g t cs :: L) A) (i : Nat) (u : Value) : Bus w0 sd (rbox g t (cs.setIfInBounds i u) :: L) (A.setCell ⟨g, i, none⟩ u) := by
 have hb : Bk A g t cs := h.all _ (.head _)
 refine h.wr rfl (gb_setCell (gb_refl A (some g)) (p := ⟨g, i, none⟩) (.inl rfl) u) (fun g' e => by cases e; rfl) (Bk.set hb i u) (fun g' e => ⟨.inl e, ?_⟩)
 cases e
 simpa [World.setCell] using hb.lt
theorem Bus.seed {s : Nat} (h : Bus w0 sd (rseed s :: L) A) (hg : A.grownBy B (some s)) (hs : SeedAt B s) : Bus w0 sd (rseed s :: L) B :=
 h.wr rfl hg (fun _ e => by cases e; rfl) hs fun g e => ⟨.inl e, by cases e; exact hs.lt⟩
theorem Bus.seedAdd {s : Nat} (r' : Res) (h : Bus w0 sd (rseed s :: L) A) (hg : A.grownBy B (some s)) (hs : SeedAt B s) (hP : r'.P B) (hX : ∀ g, r'.X g -> A.heap.size <= g /\ g < B.heap.size) : Bus w0 sd (r' :: rseed s :: L) B :=
 h.wradd r' rfl hg (fun _ e => by cases e; rfl) hs (fun _ e => e) hP hX
theorem Bus.ofSeed (h : SeedAt A sd) : Bus A sd [rseed sd] A :=
 ⟨fun r hr => (by rw [List.mem_singleton] at hr; subst hr; exact h), fun r hr g hx => (by rw [List.mem_singleton] at hr; subst hr; cases hx; exact ⟨h.lt, fun _ => .inr rfl⟩), List.pairwise_singleton _ _, gb_refl _ _⟩
theorem Bus.app {α : Type} {enc : α -> List Value} {e : TypeId} {sz base base' : Nat} {v : Value} {l ys : List α} {H N g cap : Nat} (h : Bus w0 sd (rown enc e sz base v l :: L) A) (hp : AppPost enc e sz base' A v l ys H N g cap B) (hH : A.heap.size <= H) :
  Bus w0 sd (rown enc e sz base' (.slice (some ⟨g, 0, none⟩) N cap) (l ++ ys) :: L) B :=
 h.wr rfl hp.gb (fun k e => e) hp.own fun k e => ⟨by
  have e' : g = k := by simpa [rown, Value.ownBlock] using e
  subst e'
  rcases hp.at_ with h1 | h1
  · exact .inl h1
  · exact .inr (by omega), by
  have e' : g = k := by simpa [rown, Value.ownBlock] using e
  subst e'
  exact hp.lt⟩
end
theorem Bus.setOwn {α : Type} {enc : α -> List Value} {e : TypeId} {sz base sd : Nat} {w0 w : World} {L : List Res} {g n cap : Nat} {l : List α} (hlen : ∀ x, (enc x).length = sz) (h : Bus w0 sd (rown enc e sz base (.slice (some ⟨g, 0, none⟩) n cap) l :: L) w) {i j : Nat} {x y : α} {u : Value} (hx : l[i]? = some x) (hj : j < sz) (hy : enc y = (enc x).set j u) {k : Nat} (hk : i * sz + j = k) :
  Bus w0 sd (rown enc e sz base (.slice (some ⟨g, 0, none⟩) n cap) (l.set i y) :: L) (w.setCell ⟨g, k, none⟩ u) := by
 subst hk
 have ho : Own enc e sz base w (.slice (some ⟨g, 0, none⟩) n cap) l := h.at 0 rfl
 have h2 := Own.set hlen ho hx hj hy
 refine h.wr rfl (gb_setCell (gb_refl w (some g)) (p := ⟨g, i * sz + j, none⟩) (.inl rfl) u) (fun g' e => by cases e; rfl) h2 fun k e => ?_
 exact ⟨.inl e, (h2.lt k e).2⟩
def OnlyS (sd : Nat) (L : List Res) : Prop := ∀ r ∈ L, r.mine = true -> ∀ g, r.X g -> g = sd
theorem Bus.sl0 {α : Type} {enc : α -> List Value} {sz lo hi sd : Nat} {v : Value} {l : List α} {w0 : World} {L : List Res} (h : Bus w0 sd L w0) (hs : Sl enc sz lo hi w0 v l) (h2 : hi <= w0.heap.size) (hx : ¬ (lo <= sd /\ sd < hi)) (hm : OnlyS sd L) : Bus w0 sd (rsl enc sz lo hi v l :: L) w0 := by
 refine ⟨fun r hr => ?_, fun r hr g hg => ?_, ?_, h.gb⟩
 ·
  rcases List.mem_cons.1 hr with rfl | hr
  · exact hs
  · exact h.all r hr
 ·
  rcases List.mem_cons.1 hr with rfl | hr
  · exact ⟨Nat.lt_of_lt_of_le hg.2 h2, fun e => by cases e⟩
  · exact h.bd r hr g hg
 rw [List.pairwise_cons]
 refine ⟨fun x hx' hmm g hg1 hg2 => ?_, h.dis⟩
 rcases hmm with hmm | hmm
 · cases hmm
 obtain rfl := hm x hx' hmm g hg2
 exact hx hg1
open Go.RowKit Go.Shelf
def Marks (B : Nat) (W : World) (ds : List Deferred) : Prop := ∃ Ds : List Nat, ds = Ds.map (fun D => { target := .collected D, args := #[] }) /\ Ds.Nodup /\ ∀ D ∈ Ds, B <= D /\ W.heap[D]? = some (.deferred (some []))
theorem Marks.nil (B : Nat) (W : World) : Marks B W [] := ⟨[], rfl, List.nodup_nil, fun _ h => by cases h⟩
theorem Marks.one {B D : Nat} {W : World} (hB : B <= D) (hK : W.heap[D]? = some (.deferred (some []))) : Marks B W [{ target := .collected D, args := #[] }] :=
 ⟨[D], rfl, by simp, fun x h => by obtain rfl := List.mem_singleton.1 h; exact ⟨hB, hK⟩⟩
theorem Marks.cons {B D : Nat} {A W : World} {ds : List Deferred} (h : Marks B A ds) (hg : A.grownBy W none) (hB : B <= D) (hD : A.heap.size <= D) (hK : W.heap[D]? = some (.deferred (some []))) : Marks B W ({ target := .collected D, args := #[] } :: ds) := by
 obtain ⟨Ds, rfl, h1, h2⟩ := h
 have hlt : ∀ x ∈ Ds, x < A.heap.size := fun x hx => (Array.getElem?_eq_some_iff.1 (h2 x hx).2).1
 refine ⟨D :: Ds, rfl, List.nodup_cons.2 ⟨fun hm => by have := hlt D hm; omega, h1⟩, fun x hx => ?_⟩
 rcases List.mem_cons.1 hx with rfl | hx
 · exact ⟨hB, hK⟩
 · exact ⟨(h2 x hx).1, (hg.block x (hlt x hx) (by simp)).trans (h2 x hx).2⟩
theorem Marks.keep {B : Nat} {A W : World} {ds : List Deferred} (h : Marks B A ds) (hk : ∀ D : Nat, A.heap[D]? = some (.deferred (some [])) -> W.heap[D]? = some (.deferred (some []))) : Marks B W ds := by
 obtain ⟨Ds, rfl, h1, h2⟩ := h
 exact ⟨Ds, rfl, h1, fun x hx => ⟨(h2 x hx).1, hk x (h2 x hx).2⟩⟩
theorem Marks.set {B : Nat} {A : World} {ds : List Deferred} {g : Nat} {t : TypeId} {cs : Array Value} (h : Marks B A ds) (hg : Bk A g t cs) (i : Nat) (u : Value) : Marks B (A.setCell ⟨g, i, none⟩ u) ds :=
 h.keep fun D hD => (Below.heap_setCell A ⟨g, i, none⟩ u D (fun e => by
  have e' : D = g := e
  subst e'
  unfold Bk at hg
  rw [hg] at hD
  cases hD)).trans hD
theorem Marks.alloc {B : Nat} {A : World} {ds : List Deferred} (h : Marks B A ds) (o : Obj) : Marks B (A.alloc o) ds :=
 h.keep fun D hD => (Below.heap_alloc A o D (Array.getElem?_eq_some_iff.1 hD).1).trans hD
theorem Marks.own {α : Type} {enc : α -> List Value} {e : TypeId} {sz base : Nat} {B : Nat} {A W : World} {ds : List Deferred} {v : Value} {l : List α} (h : Marks B A ds) (ho : Own enc e sz base A v l) (hg : A.grownBy W v.ownBlock) : Marks B W ds :=
 h.keep fun D hD => (hg.block D (Array.getElem?_eq_some_iff.1 hD).1 (fun e => by
  rcases ho.2 with ⟨rfl, _⟩ | ⟨g, cap, cur, rfl, _, hh, _⟩
  · cases e
  injection e with e
  subst e
  rw [hh] at hD
  cases hD)).trans hD
theorem Own.base {α : Type} {enc : α -> List Value} {e : TypeId} {sz base base' : Nat} {w : World} {v : Value} {l : List α} (h : Own enc e sz base w v l) (hb : base' <= base) : Own enc e sz base' w v l := by
 obtain ⟨h1, h2⟩ := h
 refine ⟨h1, ?_⟩
 rcases h2 with h2 | ⟨g, cap, cur, hv, hbg, hg, h3⟩
 · exact .inl h2
 · exact .inr ⟨g, cap, cur, hv, by omega, hg, h3⟩
theorem Bk.newAt (w : World) (t : TypeId) (cs : Array Value) {n : Nat} (h : w.heap.size = n) : Bk (w.alloc (.cells cs t)) n t cs := h ▸ Bk.new w t cs
structure Shut (B : Nat) (w w' : World) : Prop where
 os : w'.os = w.os
 tape : w'.tape = w.tape
 output : w'.output = w.output
 size : w'.heap.size = w.heap.size
 block : ∀ g, w.heap[g]? ≠ some (.deferred (some [])) ∨ g < B -> w'.heap[g]? = w.heap[g]?
theorem Shut.bk {B : Nat} {w w' : World} (h : Shut B w w') {g : Nat} {t : TypeId} {cs : Array Value} (hg : Bk w g t cs) : Bk w' g t cs :=
 (h.block g (.inl (by unfold Bk at hg; rw [hg]; simp))).trans hg
theorem Shut.gb {B : Nat} {a w w' : World} (h : Shut B w w') {r : Option Nat} (hg : a.grownBy w r) (hB : a.heap.size <= B) : a.grownBy w' r :=
 ⟨h.os.trans hg.os, h.tape.trans hg.tape, h.output.trans hg.output, by rw [h.size]; exact hg.size, fun i hi hne => (h.block i (.inr (by omega))).trans (hg.block i hi hne)⟩
theorem Shut.own {α : Type} {enc : α -> List Value} {e : TypeId} {sz base B : Nat} {w w' : World} {v : Value} {l : List α} (hs : Shut B w w') (h : Own enc e sz base w v l) : Own enc e sz base w' v l := by
 obtain ⟨h1, h2⟩ := h
 refine ⟨h1, ?_⟩
 rcases h2 with h2 | ⟨g, cap, cur, hv, hb, hg, h3⟩
 · exact .inl h2
 · exact .inr ⟨g, cap, cur, hv, hb, (hs.block g (.inl (by rw [hg]; simp))).trans hg, h3⟩
theorem leave_marks {P : Program} {fn : Func} {R : Ending -> World -> Prop} {tmps : Array Value} {B : Nat} {w : World} {ds : List Deferred} (hm : Marks B w ds) (v : Value)
  (h : ∀ w', Shut B w w' -> (results fn tmps).run P w' = .ok v w' /\ R (.returned v) w') :
  bodyPostM Fence.wide 0 P fn R .ret { tmps := tmps, defers := ds } w := by
 obtain ⟨Ds, rfl, h1, h2⟩ := hm
 show LeavesInM Fence.wide 0 P fn tmps R _ .returning w
 have key : ∀ (Ds : List Nat) (u : World), Ds.Nodup -> (∀ D ∈ Ds, B <= D /\ u.heap[D]? = some (.deferred (some []))) -> Shut B w u →
   LeavesInM Fence.wide 0 P fn tmps R (Ds.map (fun D => { target := .collected D, args := #[] })) .returning u := by
  intro Ds
  induction Ds with
  | nil => exact fun u _ _ hs => ⟨v, (h u hs).1, (h u hs).2⟩
  | cons D Ds ih =>
   intro u hn hD hs
   obtain ⟨hn1, hn2⟩ := List.nodup_cons.1 hn
   obtain ⟨hB, hK⟩ := hD D (by simp)
   refine ⟨by simp, .inl ⟨D, u.putObj D (.deferred none), rfl, run_takeDeferred hK, ih _ hn2 (fun x hx => ?_) ?_⟩⟩
   ·
    have hne : x ≠ D := fun e => hn1 (e ▸ hx)
    exact ⟨(hD x (by simp [hx])).1, (World.putObj_heap_other hne).trans (hD x (by simp [hx])).2⟩
   refine ⟨hs.os, hs.tape, hs.output, ?_, fun g hg => ?_⟩
   · rw [← hs.size]; simp [World.putObj]
   have hu := hs.block g hg
   by_cases e : g = D
   ·
    subst e
    rcases hg with hg | hg
    · rw [hu] at hK; exact absurd hK hg
    · omega
   · exact (World.putObj_heap_other e).trans hu
 exact key Ds w h1 h2 ⟨rfl, rfl, rfl, rfl, fun _ _ => rfl⟩
def slot (T : Array Value) (i : Nat) : Value := T.getD i undef
theorem wp_loopS {P : Program} {c : Code} {Q : Exit -> Act -> World -> Prop} {a : Act} {w : World} (n : Nat) (hn : a.tmps.size = n) (I : (Nat -> Value) -> List Deferred -> World -> Prop) (μ : (Nat -> Value) -> World -> Nat)
  (h0 : I (slot a.tmps) a.defers w)
  (round : ∀ t ds wr, I t ds wr -> c.wp P (Exit.then (fun a' w' => a'.tmps.size = n /\ I (slot a'.tmps) a'.defers w' /\ μ (slot a'.tmps) w' < μ t wr) Q) { tmps := ((List.range n).map t).toArray, defers := ds } wr) :
  (Code.loop c).wp P Q a w := by
 refine wp_loop (fun a' wr => a'.tmps.size = n /\ I (slot a'.tmps) a'.defers wr) (fun a' wr => μ (slot a'.tmps) wr) ⟨hn, h0⟩ ?_
 rintro ⟨T, ds⟩ wr ⟨hT, hI⟩
 simp only at hT
 have e : T = ((List.range n).map (slot T)).toArray := by
  refine Array.ext (by simp [hT]) fun i h1 h2 => ?_
  simp [slot, h1]
 have hr := round (slot T) ds wr hI
 rw [← e] at hr
 refine wp_mono hr fun e a' w' h => ?_
 cases e <;> first | exact ⟨⟨h.1, h.2.1⟩, h.2.2⟩ | exact h
theorem wp_cutK {P : Program} {c : Code} {K : Act -> World -> Prop} {Q : Exit -> Act -> World -> Prop} {a : Act} {w : World} (n : Nat) (R : (Nat -> Value) -> World -> Prop)
  (first : c.wp P (Exit.then (fun a' w' => a'.tmps.size = n /\ a'.defers = [] /\ R (slot a'.tmps) w') Q) a w)
  (rest : ∀ t w', R t w' -> K { tmps := ((List.range n).map t).toArray, defers := [] } w') : c.wp P (Exit.then K Q) a w := by
 refine wp_mono first fun e a' w' h => ?_
 cases e with
 | normal =>
  obtain ⟨T, ds⟩ := a'
  obtain ⟨h1, h2, h3⟩ := h
  simp only at h1 h2
  subst h2
  have e : T = ((List.range n).map (slot T)).toArray := by
   refine Array.ext (by simp [h1]) fun i h1 h2 => ?_
   simp [slot, h1]
  have hr := rest (slot T) w' h3
  rw [← e] at hr
  exact hr
 | _ => exact h
theorem beq_t {a b : Int} (h : a = b) : (a == b) = true := by rw [beq_iff_eq]; exact h
theorem beq_f {a b : Int} (h : ¬ a = b) : (a == b) = false := by rw [beq_eq_false_iff_ne]; exact h
theorem bne_f {a b : Int} (h : a = b) : (a != b) = false := by rw [bne, beq_t h]; rfl
theorem bne_t {a b : Int} (h : ¬ a = b) : (a != b) = true := by rw [bne, beq_f h]; rfl
theorem dec_f {p : Prop} [Decidable p] (h : ¬ p) : decide p = false := decide_eq_false h
theorem Sl.cells {α : Type} {enc : α -> List Value} {sz lo hi n c x ox : Nat} {w : World} {l : List α} (h : Sl enc sz lo hi w (.slice (some ⟨x, ox, none⟩) n c) l) {i : Nat} {z : α} (hz : l[i]? = some z) :
  ∀ j u, (enc z)[j]? = some u -> w.cell? ⟨x, ox + i * sz + j, none⟩ = some u := by
 have hi : i < l.length := (List.getElem?_eq_some_iff.1 hz).1
 obtain ⟨x', ox', c', ev, _, _, H⟩ := h.form (by omega)
 injection ev with e1 _ e2
 injection e1 with e1
 injection e1 with e3 e4
 subst e3 e4
 have := H i hi
 rw [(List.getElem?_eq_some_iff.1 hz).2] at this
 exact this
theorem Sl.addr {α : Type} {enc : α -> List Value} {sz lo hi n c : Nat} {a : Option Addr} {w : World} {l : List α} (h : Sl enc sz lo hi w (.slice a n c) l) (h0 : 0 < l.length) : ∃ x ox, a = some ⟨x, ox, none⟩ := by
 obtain ⟨x, ox, c', ev, _⟩ := h.form h0
 injection ev with e1 _ _
 exact ⟨x, ox, e1⟩
theorem Bun.name {w0 A : World} {L : List Res} (h : Bun w0 L A) : ∃ x, A = x /\ Bun w0 L x /\ A.heap.size <= x.heap.size := ⟨A, rfl, h, Nat.le_refl _⟩
theorem Bus.name {w0 A : World} {sd : Nat} {L : List Res} (h : Bus w0 sd L A) : ∃ x, A = x /\ Bus w0 sd L x /\ A.heap.size <= x.heap.size := ⟨A, rfl, h, Nat.le_refl _⟩
theorem drop_cons {α : Type} {l : List α} {k : Nat} {z : α} (h : l[k]? = some z) : l.drop k = z :: l.drop (k + 1) := by
 obtain ⟨h1, rfl⟩ := List.getElem?_eq_some_iff.1 h
 exact List.drop_eq_getElem_cons h1
theorem Bun.sl0 {α : Type} {enc : α -> List Value} {sz lo hi : Nat} {v : Value} {l : List α} {w0 : World} {L : List Res} (h : Bun w0 L w0) (hs : Sl enc sz lo hi w0 v l) (h2 : hi <= w0.heap.size) (hm : L.all (fun r => !r.mine) = true) : Bun w0 (rsl enc sz lo hi v l :: L) w0 := by
 have hm' : ∀ r ∈ L, r.mine = false := fun r hr => by have := List.all_eq_true.1 hm r hr; simpa using this
 refine ⟨fun r hr => ?_, fun r hr g hx => ?_, ?_, h.gb⟩
 ·
  rcases List.mem_cons.1 hr with rfl | hr
  · exact hs
  · exact h.all r hr
 ·
  rcases List.mem_cons.1 hr with rfl | hr
  · exact ⟨Nat.lt_of_lt_of_le hx.2 h2, fun e => by cases e⟩
  · exact h.bd r hr g hx
 rw [List.pairwise_cons]
 exact ⟨(fun x hx hmm => by
  rw [hm' x hx] at hmm
  rcases hmm with h1 | h1 <;> cases h1), h.dis⟩
def prevC {α : Type} (l : List α) (k : Nat) : Option α := if k = 0 then none else l[k - 1]?
theorem prevC_succ {α : Type} (l : List α) (k : Nat) : prevC l (k + 1) = l[k]? := by simp [prevC]
section
variable {w0 A : World} {L : List Res} {sd : Nat}
theorem Bun.cl (h : Bun w0 L A) (i j : Nat) {g : Nat} {t : TypeId} {cs : Array Value} {u : Value} (hi : L[i]? = some (rbox g t cs)) (hj : cs[j]? = some u) : A.cell? ⟨g, j, none⟩ = some u := (Bk.cell (h.at i hi) j).trans hj
theorem Bun.q (h : Bun w0 L A) (i j : Nat) {g : Nat} {t : TypeId} {cs : Array Value} {u : Value} (hi : L[i]? = some (rbox g t cs) := by exact rfl) (hj : cs[j]? = some u := by exact rfl) : A.cell? ⟨g, j, none⟩ = some u := (Bk.cell (h.at i hi) j).trans hj
theorem Bun.nf (cs' : Array Value) {g : Nat} {t : TypeId} {cs : Array Value} (h : Bun w0 (rbox g t cs :: L) A) (e : cs = cs') : Bun w0 (rbox g t cs' :: L) A := e ▸ h
theorem Bus.cl (h : Bus w0 sd L A) (i j : Nat) {g : Nat} {t : TypeId} {cs : Array Value} {u : Value} (hi : L[i]? = some (rbox g t cs)) (hj : cs[j]? = some u) : A.cell? ⟨g, j, none⟩ = some u := (Bk.cell (h.at i hi) j).trans hj
theorem Bus.q (h : Bus w0 sd L A) (i j : Nat) {g : Nat} {t : TypeId} {cs : Array Value} {u : Value} (hi : L[i]? = some (rbox g t cs) := by exact rfl) (hj : cs[j]? = some u := by exact rfl) : A.cell? ⟨g, j, none⟩ = some u := (Bk.cell (h.at i hi) j).trans hj
theorem Bus.nf (cs' : Array Value) {g : Nat} {t : TypeId} {cs : Array Value} (h : Bus w0 sd (rbox g t cs :: L) A) (e : cs = cs') : Bus w0 sd (rbox g t cs' :: L) A := e ▸ h
theorem Bk.bx1 {g : Nat} {t : TypeId} {a0 : Value} (b : Bk A g t #[a0]) : (A.cell? ⟨g, 0, none⟩ = some a0) /\ (A.frozen? ⟨g, 0, none⟩ = false) /\ g < A.heap.size := ⟨b.cell 0, b.frozen 0, b.lt⟩
theorem Bun.bx1 (h : Bun w0 L A) (i : Nat) {g : Nat} {t : TypeId} {a0 : Value} (hi : L[i]? = some (rbox g t #[a0])) : (A.cell? ⟨g, 0, none⟩ = some a0) /\ (A.frozen? ⟨g, 0, none⟩ = false) /\ g < A.heap.size := Bk.bx1 (h.at i hi)
theorem Bus.bx1 (h : Bus w0 sd L A) (i : Nat) {g : Nat} {t : TypeId} {a0 : Value} (hi : L[i]? = some (rbox g t #[a0])) : (A.cell? ⟨g, 0, none⟩ = some a0) /\ (A.frozen? ⟨g, 0, none⟩ = false) /\ g < A.heap.size := Bk.bx1 (h.at i hi)
theorem Bk.bx2 {g : Nat} {t : TypeId} {a0 a1 : Value} (b : Bk A g t #[a0, a1]) : (A.cell? ⟨g, 0, none⟩ = some a0 /\ A.cell? ⟨g, 1, none⟩ = some a1) /\ (A.frozen? ⟨g, 0, none⟩ = false /\ A.frozen? ⟨g, 1, none⟩ = false) /\ g < A.heap.size := ⟨⟨b.cell 0, b.cell 1⟩, ⟨b.frozen 0, b.frozen 1⟩, b.lt⟩
theorem Bun.bx2 (h : Bun w0 L A) (i : Nat) {g : Nat} {t : TypeId} {a0 a1 : Value} (hi : L[i]? = some (rbox g t #[a0, a1])) : (A.cell? ⟨g, 0, none⟩ = some a0 /\ A.cell? ⟨g, 1, none⟩ = some a1) /\ (A.frozen? ⟨g, 0, none⟩ = false /\ A.frozen? ⟨g, 1, none⟩ = false) /\ g < A.heap.size := Bk.bx2 (h.at i hi)
theorem Bus.bx2 (h : Bus w0 sd L A) (i : Nat) {g : Nat} {t : TypeId} {a0 a1 : Value} (hi : L[i]? = some (rbox g t #[a0, a1])) : (A.cell? ⟨g, 0, none⟩ = some a0 /\ A.cell? ⟨g, 1, none⟩ = some a1) /\ (A.frozen? ⟨g, 0, none⟩ = false /\ A.frozen? ⟨g, 1, none⟩ = false) /\ g < A.heap.size := Bk.bx2 (h.at i hi)
theorem Bk.bx3 {g : Nat} {t : TypeId} {a0 a1 a2 : Value} (b : Bk A g t #[a0, a1, a2]) : (A.cell? ⟨g, 0, none⟩ = some a0 /\ A.cell? ⟨g, 1, none⟩ = some a1 /\ A.cell? ⟨g, 2, none⟩ = some a2) /\ (A.frozen? ⟨g, 0, none⟩ = false /\ A.frozen? ⟨g, 1, none⟩ = false /\ A.frozen? ⟨g, 2, none⟩ = false) /\ g < A.heap.size := ⟨⟨b.cell 0, b.cell 1, b.cell 2⟩, ⟨b.frozen 0, b.frozen 1, b.frozen 2⟩, b.lt⟩
theorem Bun.bx3 (h : Bun w0 L A) (i : Nat) {g : Nat} {t : TypeId} {a0 a1 a2 : Value} (hi : L[i]? = some (rbox g t #[a0, a1, a2])) : (A.cell? ⟨g, 0, none⟩ = some a0 /\ A.cell? ⟨g, 1, none⟩ = some a1 /\ A.cell? ⟨g, 2, none⟩ = some a2) /\ (A.frozen? ⟨g, 0, none⟩ = false /\ A.frozen? ⟨g, 1, none⟩ = false /\ A.frozen? ⟨g, 2, none⟩ = false) /\ g < A.heap.size := Bk.bx3 (h.at i hi)
theorem Bus.bx3 (h : Bus w0 sd L A) (i : Nat) {g : Nat} {t : TypeId} {a0 a1 a2 : Value} (hi : L[i]? = some (rbox g t #[a0, a1, a2])) : (A.cell? ⟨g, 0, none⟩ = some a0 /\ A.cell? ⟨g, 1, none⟩ = some a1 /\ A.cell? ⟨g, 2, none⟩ = some a2) /\ (A.frozen? ⟨g, 0, none⟩ = false /\ A.frozen? ⟨g, 1, none⟩ = false /\ A.frozen? ⟨g, 2, none⟩ = false) /\ g < A.heap.size := Bk.bx3 (h.at i hi)
theorem Bk.bx4 {g : Nat} {t : TypeId} {a0 a1 a2 a3 : Value} (b : Bk A g t #[a0, a1, a2, a3]) : (A.cell? ⟨g, 0, none⟩ = some a0 /\ A.cell? ⟨g, 1, none⟩ = some a1 /\ A.cell? ⟨g, 2, none⟩ = some a2 /\ A.cell? ⟨g, 3, none⟩ = some a3) /\ (A.frozen? ⟨g, 0, none⟩ = false /\ A.frozen? ⟨g, 1, none⟩ = false /\ A.frozen? ⟨g, 2, none⟩ = false /\ A.frozen? ⟨g, 3, none⟩ = false) /\ g < A.heap.size := ⟨⟨b.cell 0, b.cell 1, b.cell 2, b.cell 3⟩, ⟨b.frozen 0, b.frozen 1, b.frozen 2, b.frozen 3⟩, b.lt⟩
theorem Bun.bx4 (h : Bun w0 L A) (i : Nat) {g : Nat} {t : TypeId} {a0 a1 a2 a3 : Value} (hi : L[i]? = some (rbox g t #[a0, a1, a2, a3])) : (A.cell? ⟨g, 0, none⟩ = some a0 /\ A.cell? ⟨g, 1, none⟩ = some a1 /\ A.cell? ⟨g, 2, none⟩ = some a2 /\ A.cell? ⟨g, 3, none⟩ = some a3) /\ (A.frozen? ⟨g, 0, none⟩ = false /\ A.frozen? ⟨g, 1, none⟩ = false /\ A.frozen? ⟨g, 2, none⟩ = false /\ A.frozen? ⟨g, 3, none⟩ = false) /\ g < A.heap.size := Bk.bx4 (h.at i hi)
theorem Bus.bx4 (h : Bus w0 sd L A) (i : Nat) {g : Nat} {t : TypeId} {a0 a1 a2 a3 : Value} (hi : L[i]? = some (rbox g t #[a0, a1, a2, a3])) : (A.cell? ⟨g, 0, none⟩ = some a0 /\ A.cell? ⟨g, 1, none⟩ = some a1 /\ A.cell? ⟨g, 2, none⟩ = some a2 /\ A.cell? ⟨g, 3, none⟩ = some a3) /\ (A.frozen? ⟨g, 0, none⟩ = false /\ A.frozen? ⟨g, 1, none⟩ = false /\ A.frozen? ⟨g, 2, none⟩ = false /\ A.frozen? ⟨g, 3, none⟩ = false) /\ g < A.heap.size := Bk.bx4 (h.at i hi)
theorem Bk.bx5 {g : Nat} {t : TypeId} {a0 a1 a2 a3 a4 : Value} (b : Bk A g t #[a0, a1, a2, a3, a4]) : (A.cell? ⟨g, 0, none⟩ = some a0 /\ A.cell? ⟨g, 1, none⟩ = some a1 /\ A.cell? ⟨g, 2, none⟩ = some a2 /\ A.cell? ⟨g, 3, none⟩ = some a3 /\ A.cell? ⟨g, 4, none⟩ = some a4) /\ (A.frozen? ⟨g, 0, none⟩ = false /\ A.frozen? ⟨g, 1, none⟩ = false /\ A.frozen? ⟨g, 2, none⟩ = false /\ A.frozen? ⟨g, 3, none⟩ = false /\ A.frozen? ⟨g, 4, none⟩ = false) /\ g < A.heap.size := ⟨⟨b.cell 0, b.cell 1, b.cell 2, b.cell 3, b.cell 4⟩, ⟨b.frozen 0, b.frozen 1, b.frozen 2, b.frozen 3, b.frozen 4⟩, b.lt⟩
theorem Bun.bx5 (h : Bun w0 L A) (i : Nat) {g : Nat} {t : TypeId} {a0 a1 a2 a3 a4 : Value} (hi : L[i]? = some (rbox g t #[a0, a1, a2, a3, a4])) : (A.cell? ⟨g, 0, none⟩ = some a0 /\ A.cell? ⟨g, 1, none⟩ = some a1 /\ A.cell? ⟨g, 2, none⟩ = some a2 /\ A.cell? ⟨g, 3, none⟩ = some a3 /\ A.cell? ⟨g, 4, none⟩ = some a4) /\ (A.frozen? ⟨g, 0, none⟩ = false /\ A.frozen? ⟨g, 1, none⟩ = false /\ A.frozen? ⟨g, 2, none⟩ = false /\ A.frozen? ⟨g, 3, none⟩ = false /\ A.frozen? ⟨g, 4, none⟩ = false) /\ g < A.heap.size := Bk.bx5 (h.at i hi)
theorem Bus.bx5 (h : Bus w0 sd L A) (i : Nat) {g : Nat} {t : TypeId} {a0 a1 a2 a3 a4 : Value} (hi : L[i]? = some (rbox g t #[a0, a1, a2, a3, a4])) : (A.cell? ⟨g, 0, none⟩ = some a0 /\ A.cell? ⟨g, 1, none⟩ = some a1 /\ A.cell? ⟨g, 2, none⟩ = some a2 /\ A.cell? ⟨g, 3, none⟩ = some a3 /\ A.cell? ⟨g, 4, none⟩ = some a4) /\ (A.frozen? ⟨g, 0, none⟩ = false /\ A.frozen? ⟨g, 1, none⟩ = false /\ A.frozen? ⟨g, 2, none⟩ = false /\ A.frozen? ⟨g, 3, none⟩ = false /\ A.frozen? ⟨g, 4, none⟩ = false) /\ g < A.heap.size := Bk.bx5 (h.at i hi)
theorem Bk.bx6 {g : Nat} {t : TypeId} {a0 a1 a2 a3 a4 a5 : Value} (b : Bk A g t #[a0, a1, a2, a3, a4, a5]) : (A.cell? ⟨g, 0, none⟩ = some a0 /\ A.cell? ⟨g, 1, none⟩ = some a1 /\ A.cell? ⟨g, 2, none⟩ = some a2 /\ A.cell? ⟨g, 3, none⟩ = some a3 /\ A.cell? ⟨g, 4, none⟩ = some a4 /\ A.cell? ⟨g, 5, none⟩ = some a5) /\ (A.frozen? ⟨g, 0, none⟩ = false /\ A.frozen? ⟨g, 1, none⟩ = false /\ A.frozen? ⟨g, 2, none⟩ = false /\ A.frozen? ⟨g, 3, none⟩ = false /\ A.frozen? ⟨g, 4, none⟩ = false /\ A.frozen? ⟨g, 5, none⟩ = false) /\ g < A.heap.size := ⟨⟨b.cell 0, b.cell 1, b.cell 2, b.cell 3, b.cell 4, b.cell 5⟩, ⟨b.frozen 0, b.frozen 1, b.frozen 2, b.frozen 3, b.frozen 4, b.frozen 5⟩, b.lt⟩
theorem Bun.bx6 (h : Bun w0 L A) (i : Nat) {g : Nat} {t : TypeId} {a0 a1 a2 a3 a4 a5 : Value} (hi : L[i]? = some (rbox g t #[a0, a1, a2, a3, a4, a5])) : (A.cell? ⟨g, 0, none⟩ = some a0 /\ A.cell? ⟨g, 1, none⟩ = some a1 /\ A.cell? ⟨g, 2, none⟩ = some a2 /\ A.cell? ⟨g, 3, none⟩ = some a3 /\ A.cell? ⟨g, 4, none⟩ = some a4 /\ A.cell? ⟨g, 5, none⟩ = some a5) /\ (A.frozen? ⟨g, 0, none⟩ = false /\ A.frozen? ⟨g, 1, none⟩ = false /\ A.frozen? ⟨g, 2, none⟩ = false /\ A.frozen? ⟨g, 3, none⟩ = false /\ A.frozen? ⟨g, 4, none⟩ = false /\ A.frozen? ⟨g, 5, none⟩ = false) /\ g < A.heap.size := Bk.bx6 (h.at i hi)
theorem Bus.bx6 (h : Bus w0 sd L A) (i : Nat) {g : Nat} {t : TypeId} {a0 a1 a2 a3 a4 a5 : Value} (hi : L[i]? = some (rbox g t #[a0, a1, a2, a3, a4, a5])) : (A.cell? ⟨g, 0, none⟩ = some a0 /\ A.cell? ⟨g, 1, none⟩ = some a1 /\ A.cell? ⟨g, 2, none⟩ = some a2 /\ A.cell? ⟨g, 3, none⟩ = some a3 /\ A.cell? ⟨g, 4, none⟩ = some a4 /\ A.cell? ⟨g, 5, none⟩ = some a5) /\ (A.frozen? ⟨g, 0, none⟩ = false /\ A.frozen? ⟨g, 1, none⟩ = false /\ A.frozen? ⟨g, 2, none⟩ = false /\ A.frozen? ⟨g, 3, none⟩ = false /\ A.frozen? ⟨g, 4, none⟩ = false /\ A.frozen? ⟨g, 5, none⟩ = false) /\ g < A.heap.size := Bk.bx6 (h.at i hi)
theorem Bk.bx8 {g : Nat} {t : TypeId} {a0 a1 a2 a3 a4 a5 a6 a7 : Value} (b : Bk A g t #[a0, a1, a2, a3, a4, a5, a6, a7]) : (A.cell? ⟨g, 0, none⟩ = some a0 /\ A.cell? ⟨g, 1, none⟩ = some a1 /\ A.cell? ⟨g, 2, none⟩ = some a2 /\ A.cell? ⟨g, 3, none⟩ = some a3 /\ A.cell? ⟨g, 4, none⟩ = some a4 /\ A.cell? ⟨g, 5, none⟩ = some a5 /\ A.cell? ⟨g, 6, none⟩ = some a6 /\ A.cell? ⟨g, 7, none⟩ = some a7) /\ (A.frozen? ⟨g, 0, none⟩ = false /\ A.frozen? ⟨g, 1, none⟩ = false /\ A.frozen? ⟨g, 2, none⟩ = false /\ A.frozen? ⟨g, 3, none⟩ = false /\ A.frozen? ⟨g, 4, none⟩ = false /\ A.frozen? ⟨g, 5, none⟩ = false /\ A.frozen? ⟨g, 6, none⟩ = false /\ A.frozen? ⟨g, 7, none⟩ = false) /\ g < A.heap.size := ⟨⟨b.cell 0, b.cell 1, b.cell 2, b.cell 3, b.cell 4, b.cell 5, b.cell 6, b.cell 7⟩, ⟨b.frozen 0, b.frozen 1, b.frozen 2, b.frozen 3, b.frozen 4, b.frozen 5, b.frozen 6, b.frozen 7⟩, b.lt⟩
theorem Bun.bx8 (h : Bun w0 L A) (i : Nat) {g : Nat} {t : TypeId} {a0 a1 a2 a3 a4 a5 a6 a7 : Value} (hi : L[i]? = some (rbox g t #[a0, a1, a2, a3, a4, a5, a6, a7])) : (A.cell? ⟨g, 0, none⟩ = some a0 /\ A.cell? ⟨g, 1, none⟩ = some a1 /\ A.cell? ⟨g, 2, none⟩ = some a2 /\ A.cell? ⟨g, 3, none⟩ = some a3 /\ A.cell? ⟨g, 4, none⟩ = some a4 /\ A.cell? ⟨g, 5, none⟩ = some a5 /\ A.cell? ⟨g, 6, none⟩ = some a6 /\ A.cell? ⟨g, 7, none⟩ = some a7) /\ (A.frozen? ⟨g, 0, none⟩ = false /\ A.frozen? ⟨g, 1, none⟩ = false /\ A.frozen? ⟨g, 2, none⟩ = false /\ A.frozen? ⟨g, 3, none⟩ = false /\ A.frozen? ⟨g, 4, none⟩ = false /\ A.frozen? ⟨g, 5, none⟩ = false /\ A.frozen? ⟨g, 6, none⟩ = false /\ A.frozen? ⟨g, 7, none⟩ = false) /\ g < A.heap.size := Bk.bx8 (h.at i hi)
theorem Bus.bx8 (h : Bus w0 sd L A) (i : Nat) {g : Nat} {t : TypeId} {a0 a1 a2 a3 a4 a5 a6 a7 : Value} (hi : L[i]? = some (rbox g t #[a0, a1, a2, a3, a4, a5, a6, a7])) : (A.cell? ⟨g, 0, none⟩ = some a0 /\ A.cell? ⟨g, 1, none⟩ = some a1 /\ A.cell? ⟨g, 2, none⟩ = some a2 /\ A.cell? ⟨g, 3, none⟩ = some a3 /\ A.cell? ⟨g, 4, none⟩ = some a4 /\ A.cell? ⟨g, 5, none⟩ = some a5 /\ A.cell? ⟨g, 6, none⟩ = some a6 /\ A.cell? ⟨g, 7, none⟩ = some a7) /\ (A.frozen? ⟨g, 0, none⟩ = false /\ A.frozen? ⟨g, 1, none⟩ = false /\ A.frozen? ⟨g, 2, none⟩ = false /\ A.frozen? ⟨g, 3, none⟩ = false /\ A.frozen? ⟨g, 4, none⟩ = false /\ A.frozen? ⟨g, 5, none⟩ = false /\ A.frozen? ⟨g, 6, none⟩ = false /\ A.frozen? ⟨g, 7, none⟩ = false) /\ g < A.heap.size := Bk.bx8 (h.at i hi)
theorem Bk.bx11 {g : Nat} {t : TypeId} {a0 a1 a2 a3 a4 a5 a6 a7 a8 a9 a10 : Value} (b : Bk A g t #[a0, a1, a2, a3, a4, a5, a6, a7, a8, a9, a10]) : (A.cell? ⟨g, 0, none⟩ = some a0 /\ A.cell? ⟨g, 1, none⟩ = some a1 /\ A.cell? ⟨g, 2, none⟩ = some a2 /\ A.cell? ⟨g, 3, none⟩ = some a3 /\ A.cell? ⟨g, 4, none⟩ = some a4 /\ A.cell? ⟨g, 5, none⟩ = some a5 /\ A.cell? ⟨g, 6, none⟩ = some a6 /\ A.cell? ⟨g, 7, none⟩ = some a7 /\ A.cell? ⟨g, 8, none⟩ = some a8 /\ A.cell? ⟨g, 9, none⟩ = some a9 /\ A.cell? ⟨g, 10, none⟩ = some a10) /\ (A.frozen? ⟨g, 0, none⟩ = false /\ A.frozen? ⟨g, 1, none⟩ = false /\ A.frozen? ⟨g, 2, none⟩ = false /\ A.frozen? ⟨g, 3, none⟩ = false /\ A.frozen? ⟨g, 4, none⟩ = false /\ A.frozen? ⟨g, 5, none⟩ = false /\ A.frozen? ⟨g, 6, none⟩ = false /\ A.frozen? ⟨g, 7, none⟩ = false /\ A.frozen? ⟨g, 8, none⟩ = false /\ A.frozen? ⟨g, 9, none⟩ = false /\ A.frozen? ⟨g, 10, none⟩ = false) /\ g < A.heap.size := ⟨⟨b.cell 0, b.cell 1, b.cell 2, b.cell 3, b.cell 4, b.cell 5, b.cell 6, b.cell 7, b.cell 8, b.cell 9, b.cell 10⟩, ⟨b.frozen 0, b.frozen 1, b.frozen 2, b.frozen 3, b.frozen 4, b.frozen 5, b.frozen 6, b.frozen 7, b.frozen 8, b.frozen 9, b.frozen 10⟩, b.lt⟩
theorem Bun.bx11 (h : Bun w0 L A) (i : Nat) {g : Nat} {t : TypeId} {a0 a1 a2 a3 a4 a5 a6 a7 a8 a9 a10 : Value} (hi : L[i]? = some (rbox g t #[a0, a1, a2, a3, a4, a5, a6, a7, a8, a9, a10])) : (A.cell? ⟨g, 0, none⟩ = some a0 /\ A.cell? ⟨g, 1, none⟩ = some a1 /\ A.cell? ⟨g, 2, none⟩ = some a2 /\ A.cell? ⟨g, 3, none⟩ = some a3 /\ A.cell? ⟨g, 4, none⟩ = some a4 /\ A.cell? ⟨g, 5, none⟩ = some a5 /\ A.cell? ⟨g, 6, none⟩ = some a6 /\ A.cell? ⟨g, 7, none⟩ = some a7 /\ A.cell? ⟨g, 8, none⟩ = some a8 /\ A.cell? ⟨g, 9, none⟩ = some a9 /\ A.cell? ⟨g, 10, none⟩ = some a10) /\ (A.frozen? ⟨g, 0, none⟩ = false /\ A.frozen? ⟨g, 1, none⟩ = false /\ A.frozen? ⟨g, 2, none⟩ = false /\ A.frozen? ⟨g, 3, none⟩ = false /\ A.frozen? ⟨g, 4, none⟩ = false /\ A.frozen? ⟨g, 5, none⟩ = false /\ A.frozen? ⟨g, 6, none⟩ = false /\ A.frozen? ⟨g, 7, none⟩ = false /\ A.frozen? ⟨g, 8, none⟩ = false /\ A.frozen? ⟨g, 9, none⟩ = false /\ A.frozen? ⟨g, 10, none⟩ = false) /\ g < A.heap.size := Bk.bx11 (h.at i hi)
theorem Bus.bx11 (h : Bus w0 sd L A) (i : Nat) {g : Nat} {t : TypeId} {a0 a1 a2 a3 a4 a5 a6 a7 a8 a9 a10 : Value} (hi : L[i]? = some (rbox g t #[a0, a1, a2, a3, a4, a5, a6, a7, a8, a9, a10])) : (A.cell? ⟨g, 0, none⟩ = some a0 /\ A.cell? ⟨g, 1, none⟩ = some a1 /\ A.cell? ⟨g, 2, none⟩ = some a2 /\ A.cell? ⟨g, 3, none⟩ = some a3 /\ A.cell? ⟨g, 4, none⟩ = some a4 /\ A.cell? ⟨g, 5, none⟩ = some a5 /\ A.cell? ⟨g, 6, none⟩ = some a6 /\ A.cell? ⟨g, 7, none⟩ = some a7 /\ A.cell? ⟨g, 8, none⟩ = some a8 /\ A.cell? ⟨g, 9, none⟩ = some a9 /\ A.cell? ⟨g, 10, none⟩ = some a10) /\ (A.frozen? ⟨g, 0, none⟩ = false /\ A.frozen? ⟨g, 1, none⟩ = false /\ A.frozen? ⟨g, 2, none⟩ = false /\ A.frozen? ⟨g, 3, none⟩ = false /\ A.frozen? ⟨g, 4, none⟩ = false /\ A.frozen? ⟨g, 5, none⟩ = false /\ A.frozen? ⟨g, 6, none⟩ = false /\ A.frozen? ⟨g, 7, none⟩ = false /\ A.frozen? ⟨g, 8, none⟩ = false /\ A.frozen? ⟨g, 9, none⟩ = false /\ A.frozen? ⟨g, 10, none⟩ = false) /\ g < A.heap.size := Bk.bx11 (h.at i hi)
theorem Bk.bx14 {g : Nat} {t : TypeId} {a0 a1 a2 a3 a4 a5 a6 a7 a8 a9 a10 a11 a12 a13 : Value} (b : Bk A g t #[a0, a1, a2, a3, a4, a5, a6, a7, a8, a9, a10, a11, a12, a13]) : (A.cell? ⟨g, 0, none⟩ = some a0 /\ A.cell? ⟨g, 1, none⟩ = some a1 /\ A.cell? ⟨g, 2, none⟩ = some a2 /\ A.cell? ⟨g, 3, none⟩ = some a3 /\ A.cell? ⟨g, 4, none⟩ = some a4 /\ A.cell? ⟨g, 5, none⟩ = some a5 /\ A.cell? ⟨g, 6, none⟩ = some a6 /\ A.cell? ⟨g, 7, none⟩ = some a7 /\ A.cell? ⟨g, 8, none⟩ = some a8 /\ A.cell? ⟨g, 9, none⟩ = some a9 /\ A.cell? ⟨g, 10, none⟩ = some a10 /\ A.cell? ⟨g, 11, none⟩ = some a11 /\ A.cell? ⟨g, 12, none⟩ = some a12 /\ A.cell? ⟨g, 13, none⟩ = some a13) /\ (A.frozen? ⟨g, 0, none⟩ = false /\ A.frozen? ⟨g, 1, none⟩ = false /\ A.frozen? ⟨g, 2, none⟩ = false /\ A.frozen? ⟨g, 3, none⟩ = false /\ A.frozen? ⟨g, 4, none⟩ = false /\ A.frozen? ⟨g, 5, none⟩ = false /\ A.frozen? ⟨g, 6, none⟩ = false /\ A.frozen? ⟨g, 7, none⟩ = false /\ A.frozen? ⟨g, 8, none⟩ = false /\ A.frozen? ⟨g, 9, none⟩ = false /\ A.frozen? ⟨g, 10, none⟩ = false /\ A.frozen? ⟨g, 11, none⟩ = false /\ A.frozen? ⟨g, 12, none⟩ = false /\ A.frozen? ⟨g, 13, none⟩ = false) /\ g < A.heap.size := ⟨⟨b.cell 0, b.cell 1, b.cell 2, b.cell 3, b.cell 4, b.cell 5, b.cell 6, b.cell 7, b.cell 8, b.cell 9, b.cell 10, b.cell 11, b.cell 12, b.cell 13⟩, ⟨b.frozen 0, b.frozen 1, b.frozen 2, b.frozen 3, b.frozen 4, b.frozen 5, b.frozen 6, b.frozen 7, b.frozen 8, b.frozen 9, b.frozen 10, b.frozen 11, b.frozen 12, b.frozen 13⟩, b.lt⟩
theorem Bun.bx14 (h : Bun w0 L A) (i : Nat) {g : Nat} {t : TypeId} {a0 a1 a2 a3 a4 a5 a6 a7 a8 a9 a10 a11 a12 a13 : Value} (hi : L[i]? = some (rbox g t #[a0, a1, a2, a3, a4, a5, a6, a7, a8, a9, a10, a11, a12, a13])) : (A.cell? ⟨g, 0, none⟩ = some a0 /\ A.cell? ⟨g, 1, none⟩ = some a1 /\ A.cell? ⟨g, 2, none⟩ = some a2 /\ A.cell? ⟨g, 3, none⟩ = some a3 /\ A.cell? ⟨g, 4, none⟩ = some a4 /\ A.cell? ⟨g, 5, none⟩ = some a5 /\ A.cell? ⟨g, 6, none⟩ = some a6 /\ A.cell? ⟨g, 7, none⟩ = some a7 /\ A.cell? ⟨g, 8, none⟩ = some a8 /\ A.cell? ⟨g, 9, none⟩ = some a9 /\ A.cell? ⟨g, 10, none⟩ = some a10 /\ A.cell? ⟨g, 11, none⟩ = some a11 /\ A.cell? ⟨g, 12, none⟩ = some a12 /\ A.cell? ⟨g, 13, none⟩ = some a13) /\ (A.frozen? ⟨g, 0, none⟩ = false /\ A.frozen? ⟨g, 1, none⟩ = false /\ A.frozen? ⟨g, 2, none⟩ = false /\ A.frozen? ⟨g, 3, none⟩ = false /\ A.frozen? ⟨g, 4, none⟩ = false /\ A.frozen? ⟨g, 5, none⟩ = false /\ A.frozen? ⟨g, 6, none⟩ = false /\ A.frozen? ⟨g, 7, none⟩ = false /\ A.frozen? ⟨g, 8, none⟩ = false /\ A.frozen? ⟨g, 9, none⟩ = false /\ A.frozen? ⟨g, 10, none⟩ = false /\ A.frozen? ⟨g, 11, none⟩ = false /\ A.frozen? ⟨g, 12, none⟩ = false /\ A.frozen? ⟨g, 13, none⟩ = false) /\ g < A.heap.size := Bk.bx14 (h.at i hi)
theorem Bus.bx14 (h : Bus w0 sd L A) (i : Nat) {g : Nat} {t : TypeId} {a0 a1 a2 a3 a4 a5 a6 a7 a8 a9 a10 a11 a12 a13 : Value} (hi : L[i]? = some (rbox g t #[a0, a1, a2, a3, a4, a5, a6, a7, a8, a9, a10, a11, a12, a13])) : (A.cell? ⟨g, 0, none⟩ = some a0 /\ A.cell? ⟨g, 1, none⟩ = some a1 /\ A.cell? ⟨g, 2, none⟩ = some a2 /\ A.cell? ⟨g, 3, none⟩ = some a3 /\ A.cell? ⟨g, 4, none⟩ = some a4 /\ A.cell? ⟨g, 5, none⟩ = some a5 /\ A.cell? ⟨g, 6, none⟩ = some a6 /\ A.cell? ⟨g, 7, none⟩ = some a7 /\ A.cell? ⟨g, 8, none⟩ = some a8 /\ A.cell? ⟨g, 9, none⟩ = some a9 /\ A.cell? ⟨g, 10, none⟩ = some a10 /\ A.cell? ⟨g, 11, none⟩ = some a11 /\ A.cell? ⟨g, 12, none⟩ = some a12 /\ A.cell? ⟨g, 13, none⟩ = some a13) /\ (A.frozen? ⟨g, 0, none⟩ = false /\ A.frozen? ⟨g, 1, none⟩ = false /\ A.frozen? ⟨g, 2, none⟩ = false /\ A.frozen? ⟨g, 3, none⟩ = false /\ A.frozen? ⟨g, 4, none⟩ = false /\ A.frozen? ⟨g, 5, none⟩ = false /\ A.frozen? ⟨g, 6, none⟩ = false /\ A.frozen? ⟨g, 7, none⟩ = false /\ A.frozen? ⟨g, 8, none⟩ = false /\ A.frozen? ⟨g, 9, none⟩ = false /\ A.frozen? ⟨g, 10, none⟩ = false /\ A.frozen? ⟨g, 11, none⟩ = false /\ A.frozen? ⟨g, 12, none⟩ = false /\ A.frozen? ⟨g, 13, none⟩ = false) /\ g < A.heap.size := Bk.bx14 (h.at i hi)
theorem Bun.pt2 {g : Nat} {t : TypeId} {a0 a1 : Value} (h : Bun w0 (rbox g t #[a0, a1] :: L) A) (u0 u1 : Value) : Bun w0 (rbox g t #[u0, u1] :: L) (World.setCell (World.setCell A ⟨g, 0, none⟩ u0) ⟨g, 1, none⟩ u1) := by
 simpa using ((h.set 0 u0).set 1 u1)
theorem Bus.pt2 {g : Nat} {t : TypeId} {a0 a1 : Value} (h : Bus w0 sd (rbox g t #[a0, a1] :: L) A) (u0 u1 : Value) : Bus w0 sd (rbox g t #[u0, u1] :: L) (World.setCell (World.setCell A ⟨g, 0, none⟩ u0) ⟨g, 1, none⟩ u1) := by
 simpa using ((h.set 0 u0).set 1 u1)
theorem Bun.pt8 {g : Nat} {t : TypeId} {a0 a1 a2 a3 a4 a5 a6 a7 : Value} (h : Bun w0 (rbox g t #[a0, a1, a2, a3, a4, a5, a6, a7] :: L) A) (u0 u1 u2 u3 u4 u5 u6 u7 : Value) : Bun w0 (rbox g t #[u0, u1, u2, u3, u4, u5, u6, u7] :: L) (World.setCell (World.setCell (World.setCell (World.setCell (World.setCell (World.setCell (World.setCell (World.setCell A ⟨g, 0, none⟩ u0) ⟨g, 1, none⟩ u1) ⟨g, 2, none⟩ u2) ⟨g, 3, none⟩ u3) ⟨g, 4, none⟩ u4) ⟨g, 5, none⟩ u5) ⟨g, 6, none⟩ u6) ⟨g, 7, none⟩ u7) := by
 simpa using ((((((((h.set 0 u0).set 1 u1).set 2 u2).set 3 u3).set 4 u4).set 5 u5).set 6 u6).set 7 u7)
theorem Bus.pt8 {g : Nat} {t : TypeId} {a0 a1 a2 a3 a4 a5 a6 a7 : Value} (h : Bus w0 sd (rbox g t #[a0, a1, a2, a3, a4, a5, a6, a7] :: L) A) (u0 u1 u2 u3 u4 u5 u6 u7 : Value) : Bus w0 sd (rbox g t #[u0, u1, u2, u3, u4, u5, u6, u7] :: L) (World.setCell (World.setCell (World.setCell (World.setCell (World.setCell (World.setCell (World.setCell (World.setCell A ⟨g, 0, none⟩ u0) ⟨g, 1, none⟩ u1) ⟨g, 2, none⟩ u2) ⟨g, 3, none⟩ u3) ⟨g, 4, none⟩ u4) ⟨g, 5, none⟩ u5) ⟨g, 6, none⟩ u6) ⟨g, 7, none⟩ u7) := by
 simpa using ((((((((h.set 0 u0).set 1 u1).set 2 u2).set 3 u3).set 4 u4).set 5 u5).set 6 u6).set 7 u7)
theorem Bun.pt11 {g : Nat} {t : TypeId} {a0 a1 a2 a3 a4 a5 a6 a7 a8 a9 a10 : Value} (h : Bun w0 (rbox g t #[a0, a1, a2, a3, a4, a5, a6, a7, a8, a9, a10] :: L) A) (u0 u1 u2 u3 u4 u5 u6 u7 u8 u9 u10 : Value) : Bun w0 (rbox g t #[u0, u1, u2, u3, u4, u5, u6, u7, u8, u9, u10] :: L) (World.setCell (World.setCell (World.setCell (World.setCell (World.setCell (World.setCell (World.setCell (World.setCell (World.setCell (World.setCell (World.setCell A ⟨g, 0, none⟩ u0) ⟨g, 1, none⟩ u1) ⟨g, 2, none⟩ u2) ⟨g, 3, none⟩ u3) ⟨g, 4, none⟩ u4) ⟨g, 5, none⟩ u5) ⟨g, 6, none⟩ u6) ⟨g, 7, none⟩ u7) ⟨g, 8, none⟩ u8) ⟨g, 9, none⟩ u9) ⟨g, 10, none⟩ u10) := by
 simpa using (((((((((((h.set 0 u0).set 1 u1).set 2 u2).set 3 u3).set 4 u4).set 5 u5).set 6 u6).set 7 u7).set 8 u8).set 9 u9).set 10 u10)
theorem Bus.pt11 {g : Nat} {t : TypeId} {a0 a1 a2 a3 a4 a5 a6 a7 a8 a9 a10 : Value} (h : Bus w0 sd (rbox g t #[a0, a1, a2, a3, a4, a5, a6, a7, a8, a9, a10] :: L) A) (u0 u1 u2 u3 u4 u5 u6 u7 u8 u9 u10 : Value) : Bus w0 sd (rbox g t #[u0, u1, u2, u3, u4, u5, u6, u7, u8, u9, u10] :: L) (World.setCell (World.setCell (World.setCell (World.setCell (World.setCell (World.setCell (World.setCell (World.setCell (World.setCell (World.setCell (World.setCell A ⟨g, 0, none⟩ u0) ⟨g, 1, none⟩ u1) ⟨g, 2, none⟩ u2) ⟨g, 3, none⟩ u3) ⟨g, 4, none⟩ u4) ⟨g, 5, none⟩ u5) ⟨g, 6, none⟩ u6) ⟨g, 7, none⟩ u7) ⟨g, 8, none⟩ u8) ⟨g, 9, none⟩ u9) ⟨g, 10, none⟩ u10) := by
 simpa using (((((((((((h.set 0 u0).set 1 u1).set 2 u2).set 3 u3).set 4 u4).set 5 u5).set 6 u6).set 7 u7).set 8 u8).set 9 u9).set 10 u10)
end
section
variable {P : Program} {ops : Array Oper} {Q : Exit -> Act -> World -> Prop} {l n : Nat}
theorem rowsIn_wide {row : String} {args : Array Value} {w : World} {R : Value -> World -> Prop} (h : Rows P row args w R) : RowsIn Fence.wide n P row args w R :=
 fun c cs _ => let ⟨v, w', r, s⟩ := h c cs; ⟨v, w', r, stepsIn_wide.2 s⟩
theorem operIn_of_wp {o : Oper} {a : Act} {w : World} {K : Act -> World -> Prop} (hnd : ∀ c, o.op ≠ .defer c) (h : o.wp P a w K Q) : o.wpIn (Fence.wide.inRound l) n P a w K Q := by
 refine ⟨fun _ _ => trivial, ?_⟩
 rw [Oper.semAt_eq _ _ _ hnd]
 unfold Oper.wp at h
 generalize (execOp a.eval o).run P w = r at *
 cases r with
 | ok x w' =>
  cases x with
  | value v => exact h
  | skip => exact h
  | defer d => exact h
  | enter f args => exact ⟨fun e => (by cases e), CallsIn.inRound l (callsIn_wide.2 h)⟩
  | row row args => exact ⟨fun e => (by cases e), rowsIn_wide h⟩
  | _ => exact h.elim
 | halt x w' =>
  cases x with
  | panic v => exact h
  | _ => exact h.elim
def noDefer (ops : Array Oper) : Bool := ops.all fun o => match o.op with | .defer _ => false | _ => true
theorem noDefer_at (h : noDefer ops = true) {i : Nat} {o : Oper} (ho : ops[i]? = some o) : ∀ c, o.op ≠ .defer c := by
 intro c e
 obtain ⟨hi, rfl⟩ := Array.getElem?_eq_some_iff.1 ho
 have := Array.all_eq_true.1 h i hi
 rw [e] at this
 cases this
theorem wpOpIn_of {i : Nat} {K K' : Act -> World -> Prop} {a : Act} {w : World} (hd : noDefer ops = true) (hQ : ¬ LetsOut Q) (hK : ∀ a w, K a w -> K' a w) (h : wpOp P ops Q i K a w) : wpOpIn (Fence.wide.inRound l) n P ops Q i K' a w := by
 unfold wpOp at h
 unfold wpOpIn
 cases ho : ops[i]? with
 | none => rw [ho] at h; exact hK _ _ h
 | some o =>
  rw [ho] at h
  simp only at h ⊢
  split at h
  ·
   rename_i hw
   rw [if_pos hw]
   rcases h with h | h
   · exact operIn_of_wp (noDefer_at hd ho) (Oper.wp_mono hK h)
   · exact absurd h.2 hQ
  rename_i hw
  rw [if_neg hw]
  exact ⟨fun _ _ => trivial, hK _ _ h⟩
theorem wpAnyIn_of (hd : noDefer ops = true) (hQ : ¬ LetsOut Q) (md : Region.Mode) : ∀ (fuel : Nat) (listed : Array Bool) (a : Act) (w : World), wpAny P md ops Q fuel listed a w -> wpAnyIn (Fence.wide.inRound l) n P md ops Q fuel listed a w
 | 0, _, _, _, h => h
 | fuel + 1, _, _, _, h => ⟨h.1, fun i hi => wpOpIn_of hd hQ (wpAnyIn_of hd hQ md fuel _) (h.2 i hi)⟩
theorem wpIn_draw {id : Nat} {a : Act} {w : World} (hm : P.follows .mixedOrders = true) (hd : noDefer ops = true) (hQ : ¬ LetsOut Q)
  (h : wpAny P .any ops Q ops.size (Array.replicate ops.size false) a { w with drawn := w.drawn + 1 }) : (Code.region id ops true).wpIn (Fence.wide.inRound l) n P Q a w :=
 wpIn_region_any hm (wpAnyIn_of hd hQ _ _ _ _ _ h)
end
def KeepR (lo hi : Nat) (A B : World) : Prop := hi <= B.heap.size /\ ∀ g, lo <= g -> g < hi -> B.heap[g]? = A.heap[g]?
theorem KeepR.mono {lo hi lo' hi' : Nat} {A B : World} (h : KeepR lo hi A B) (h1 : lo <= lo') (h2 : hi' <= hi) : KeepR lo' hi' A B := ⟨Nat.le_trans h2 h.1, fun g a b => h.2 g (by omega) (by omega)⟩
def rkeep (lo hi : Nat) (W0 : World) : Res :=
 ⟨true, fun x => lo <= x /\ x < hi, fun w => KeepR lo hi W0 w, fun A B _ hg hr h => ⟨Nat.le_trans h.1 hg.size, fun g a b => (hg.block g (Nat.lt_of_lt_of_le b h.1) (fun e => hr g e.symm ⟨a, b⟩)).trans (h.2 g a b)⟩⟩
section
variable {w0 A B : World} {L : List Res} {sd : Nat}
theorem Bun.rekeep {lo hi : Nat} {W0 : World} (h : Bun w0 (rkeep lo hi W0 :: L) A) {r : Option Nat} (hg : A.grownBy B r) (hr : ∀ g, r = some g -> lo <= g /\ g < hi) : Bun w0 (rkeep lo hi B :: L) B := by
 have hk : KeepR lo hi W0 A := h.all _ (.head _)
 refine h.wr rfl hg (fun g e => hr g e) ⟨Nat.le_trans hk.1 hg.size, fun _ _ _ => rfl⟩ fun g e => ⟨.inl e, ?_⟩
 have := e.2; have := hk.1; have := hg.size
 omega
theorem Bun.keep0 {lo hi : Nat} (h : Bun w0 L A) (hg : A.grownBy B none) (hlo : A.heap.size <= lo) (hhi : hi <= B.heap.size) : Bun w0 (rkeep lo hi B :: L) B :=
 h.add (rkeep lo hi B) hg ⟨hhi, fun _ _ _ => rfl⟩ fun g e => ⟨Nat.le_trans hlo e.1, Nat.lt_of_lt_of_le e.2 hhi⟩
theorem Bun.kept {lo hi : Nat} {W0 : World} (h : Bun w0 (rkeep lo hi W0 :: L) A) : KeepR lo hi W0 A := h.all _ (.head _)
theorem Bus.rekeep {lo hi : Nat} {W0 : World} (h : Bus w0 sd (rkeep lo hi W0 :: L) A) {r : Option Nat} (hg : A.grownBy B r) (hr : ∀ g, r = some g -> lo <= g /\ g < hi) : Bus w0 sd (rkeep lo hi B :: L) B := by
 have hk : KeepR lo hi W0 A := h.all _ (.head _)
 refine h.wr rfl hg (fun g e => hr g e) ⟨Nat.le_trans hk.1 hg.size, fun _ _ _ => rfl⟩ fun g e => ⟨.inl e, ?_⟩
 have := e.2; have := hk.1; have := hg.size
 omega
theorem Bus.keep0 {lo hi : Nat} (h : Bus w0 sd L A) (hg : A.grownBy B none) (hlo : A.heap.size <= lo) (hhi : hi <= B.heap.size) : Bus w0 sd (rkeep lo hi B :: L) B :=
 h.add (rkeep lo hi B) hg ⟨hhi, fun _ _ _ => rfl⟩ fun g e => ⟨Nat.le_trans hlo e.1, Nat.lt_of_lt_of_le e.2 hhi⟩
theorem Bus.kept {lo hi : Nat} {W0 : World} (h : Bus w0 sd (rkeep lo hi W0 :: L) A) : KeepR lo hi W0 A := h.all _ (.head _)
end
def SeqI (P : Program) (gf : Nat) (lb : Array Value) (N : Nat) (el : Nat -> Array Value) (Hold : World -> Prop) : Prop :=
 ∀ (l : Nat) (J Jx : Nat -> Nat -> World -> Prop) (W : World),
  (∀ hi i A B r, J hi i A -> A.grownBy B r -> (∀ g, r = some g -> W.heap.size <= g /\ g < hi) -> J hi i B) →
  (∀ hi i A B r, Jx hi i A -> A.grownBy B r -> (∀ g, r = some g -> W.heap.size <= g /\ g < hi) -> Jx hi i B) →
  (∀ hi i A, J hi i A -> Hold A /\ hi <= A.heap.size) →
  (∀ hi i A, J hi i A -> i < N -> W.heap.size <= hi -> YieldAt Fence.wide 0 P l (el i) A fun e B =>
   (e = .returned (.bool true) /\ J hi (i + 1) B /\ KeepR W.heap.size hi A B) ∨ (e = .returned (.bool false) /\ Jx hi (i + 1) B)) →
  (∀ hi B, W.grownBy B none -> B.heap.size = hi -> J hi 0 B) →
  Calls P gf (#[.func (.yield l) #[] #[]] ++ lb) W fun e B => (∃ v, e = .returned v) /\ ∃ hi, W.heap.size <= hi /\ (J hi N B ∨ ∃ i, i <= N /\ Jx hi i B)
def iPost (lo hi : Nat) (I : Nat -> Nat -> World -> Prop) (Ix : Code -> Nat -> Nat -> World -> Prop) (i : Nat) (W : World) : Exit -> Act -> World -> Prop
 | .normal, _, W' => KeepR lo hi W W' /\ I hi i W'
 | .ret, _, W' => KeepR lo hi W W' /\ Ix .ret hi i W'
 | .exit id, _, W' => KeepR lo hi W W' /\ Ix (.exit id) hi i W'
 | .goto t, _, W' => KeepR lo hi W W' /\ Ix (.goto t) hi i W'
 | .panic _, _, _ => False
 | .outgrown, _, _ => False
theorem wp_rangeI {P : Program} {g : Operand} {ps : Array Tmp} {assign body : Code} {Q : Exit -> Act -> World -> Prop} {a : Act} {w : World} {gf : Nat} {lb : Array Value} {N : Nat} {el : Nat -> Array Value} {Hold : World -> Prop}
  (hg : a.eval g = .func (.func gf) #[] lb) (eg : ∀ args w, (callFunc gf args).run P w = .ok (.enter gf args) w) (hps : ∀ i, (el i).size = ps.size) (hseq : SeqI P gf lb N el Hold)
  (I : Nat -> Nat -> World -> Prop) (Ix : Code -> Nat -> Nat -> World -> Prop)
  (hI : ∀ hi i A B r, I hi i A -> A.grownBy B r -> (∀ g, r = some g -> w.heap.size <= g /\ g < hi) -> I hi i B)
  (hIx : ∀ c hi i A B r, Ix c hi i A -> A.grownBy B r -> (∀ g, r = some g -> w.heap.size <= g /\ g < hi) -> Ix c hi i B)
  (hH : ∀ hi i A, I hi i A -> Hold A /\ hi <= A.heap.size)
  (h0 : ∀ hi B, w.grownBy B none -> B.heap.size = hi -> w.heap.size + 2 <= hi -> I hi 0 B)
  (hround : ∀ (l hi i : Nat) (W : World), I hi i W -> i < N -> w.heap.size + 2 <= hi -> hi <= W.heap.size →
   assign.wpIn (Fence.wide.inRound l) 0 P (Exit.then (fun a' W' => KeepR w.heap.size hi W W' /\ (∀ W2, W'.grownBy W2 (some (w.heap.size + 1)) -> body.wpIn (Fence.wide.inRound l) 0 P (iPost w.heap.size hi I Ix (i + 1) W2) a' W2)) (fun _ _ _ => False))
    { tmps := (ps.zip (el i)).foldl (fun t (p, v) => t.setIfInBounds p v) a.tmps, defers := [] } W)
  (hdone : ∀ hi W, w.heap.size + 2 <= hi -> I hi N W -> W.heap[w.heap.size]? = some (.deferred (some [])) -> Q .normal { a with defers := { target := .collected w.heap.size, args := #[] } :: a.defers } W)
  (hstop : ∀ c hi i W, w.heap.size + 2 <= hi -> i <= N -> Ix c hi i W -> W.heap[w.heap.size]? = some (.deferred (some [])) -> c.wp P Q { a with defers := { target := .collected w.heap.size, args := #[] } :: a.defers } W) :
  (Code.rangeFunc g ps assign body).wp P Q a w := by
 refine wpIn_wide (n := 0).1 (wpIn_rangeFunc ?_)
 intro fn hfn
 obtain ⟨rec, hrec⟩ : ∃ rec : LoopState -> Option Code -> Loop, rec = fun st pe => { state := st, pending := pe, fn, tmps := a.tmps, params := ps, assign, body, defers := w.heap.size } := ⟨_, rfl⟩
 obtain ⟨W1, hW1⟩ : ∃ W1, (w.alloc (.deferred (some []))).alloc (.loop (rec .ready none)) = W1 := ⟨_, rfl⟩
 have hL1 : W1.heap[w.heap.size + 1]? = some (.loop (rec .ready none)) := by
  rw [← hW1]; have := World.alloc_heap_new (w.alloc (.deferred (some []))) (.loop (rec .ready none)); rwa [World.size_alloc] at this
 have hK1 : W1.heap[w.heap.size]? = some (.deferred (some [])) := by
  rw [← hW1]; exact (Below.heap_alloc _ _ _ (by simp)).trans (World.alloc_heap_new w _)
 have hg1 : w.grownBy W1 none := by rw [← hW1]; exact gb_alloc (gb_alloc (gb_refl _ _) _) _
 have hs1 : W1.heap.size = w.heap.size + 2 := by rw [← hW1]; simp
 refine ⟨w.heap.size + 1, [{ target := .collected w.heap.size, args := #[] }], W1, { target := .fn (.func gf) lb, args := #[.func (.yield (w.heap.size + 1)) #[] #[]] }, W1, gf,
  #[.func (.yield (w.heap.size + 1)) #[] #[]] ++ lb, W1, ?_, ?_, fun _ _ => trivial, ?_, by simp [Fence.wide], ?_⟩
 · rw [← hW1, hrec]; exact run_enterLoop_outer _ _ _ _ _
 ·
  simp only [resolve, hg]
  simp [go_sem]
 · simp [invoke, go_sem, eg]
 have keep2 : ∀ {A B : World} {r : Option Nat} {g : Nat} {o : Obj}, A.heap[g]? = some o -> A.grownBy B r -> (∀ x, r = some x -> W1.heap.size <= x) -> g < W1.heap.size -> B.heap[g]? = some o := fun {A B r g o} h hg hr hlt =>
  (hg.block g (Array.getElem?_eq_some_iff.1 h).1 (fun e => by have := hr g e.symm; omega)).trans h
 refine callsIn_wide.2 ((hseq (w.heap.size + 1)
  (fun hi i W => I hi i W /\ W.heap[w.heap.size + 1]? = some (.loop (rec .ready none)) /\ W.heap[w.heap.size]? = some (.deferred (some [])))
  (fun hi i W => ∃ c, Ix c hi i W /\ W.heap[w.heap.size + 1]? = some (.loop (rec .done (some c))) /\ W.heap[w.heap.size]? = some (.deferred (some [])))
  W1 (fun hi i A B r hs hg' hr => ⟨hI hi i A B r hs.1 hg' (fun x e => by have := hr x e; omega), keep2 hs.2.1 hg' (fun x e => (hr x e).1) (by omega), keep2 hs.2.2 hg' (fun x e => (hr x e).1) (by omega)⟩)
  (fun hi i A B r hs hg' hr => by
   obtain ⟨c, hc, hl, hk⟩ := hs
   exact ⟨c, hIx c hi i A B r hc hg' (fun x e => by have := hr x e; omega), keep2 hl hg' (fun x e => (hr x e).1) (by omega), keep2 hk hg' (fun x e => (hr x e).1) (by omega)⟩)
  (fun hi i A hs => hH hi i A hs.1) ?_
  (fun hi B hg' hh => ⟨h0 hi B (gb_trans hg1 hg') hh (by have := hg'.size; omega), keep2 hL1 hg' (fun x e => by cases e) (by omega), keep2 hK1 hg' (fun x e => by cases e) (by omega)⟩)).mono ?_)
 ·
  rintro hi i W ⟨hi', hl, hk⟩ hlen hhi
  have hlt : w.heap.size + 1 < W.heap.size := (Array.getElem?_eq_some_iff.1 hl).1
  have hy := run_yield (P := P) (args := el i) hl (by rw [hrec]; exact hps i)
  rw [hrec] at hy
  have hhW : hi <= W.heap.size := (hH hi i W hi').2
  refine ⟨fn, _, assign, body, hy, roundIn_of_wpIn hfn (wpIn_mono (hround (w.heap.size + 1) hi i W hi' hlen (by omega) hhW) ?_)⟩
  clear hy
  intro e a' Wa hpost
  cases e with
  | normal =>
   obtain ⟨hkr, hb⟩ := hpost
   have hla := (hkr.2 (w.heap.size + 1) (by omega) (by omega)).trans hl
   have hka := (hkr.2 w.heap.size (by omega) (by omega)).trans hk
   refine ⟨_, run_beginRound hla (by rw [hrec]), ?_⟩
   have hlta : w.heap.size + 1 < Wa.heap.size := (Array.getElem?_eq_some_iff.1 hla).1
   have hl2 : (Wa.putObj (w.heap.size + 1) (.loop { rec .ready none with state := .busy })).heap[w.heap.size + 1]? = some (.loop { rec .ready none with state := .busy }) := World.putObj_heap_same hlta
   have hk2 : (Wa.putObj (w.heap.size + 1) (.loop { rec .ready none with state := .busy })).heap[w.heap.size]? = some (.deferred (some [])) := (World.putObj_heap_other (by omega)).trans hka
   refine wpIn_mono (hb _ (grownBy_putObj' _ _ _)) ?_
   have fin : ∀ (jump : Option Code) (W3 : World), KeepR w.heap.size hi (Wa.putObj (w.heap.size + 1) (.loop { rec .ready none with state := .busy })) W3 →
     (Instr.endRound (w.heap.size + 1) jump).run P W3 = .ok (.bool jump.isNone) (W3.putObj (w.heap.size + 1) (.loop (rec (if jump.isNone then .ready else .done) jump))) ∧
     W3.heap[w.heap.size + 1]? = some (.loop { rec .ready none with state := .busy }) ∧
     (W3.putObj (w.heap.size + 1) (.loop (rec (if jump.isNone then .ready else .done) jump))).heap[w.heap.size + 1]? = some (.loop (rec (if jump.isNone then .ready else .done) jump)) ∧
     (W3.putObj (w.heap.size + 1) (.loop (rec (if jump.isNone then .ready else .done) jump))).heap[w.heap.size]? = some (.deferred (some [])) ∧
     KeepR W1.heap.size hi W (W3.putObj (w.heap.size + 1) (.loop (rec (if jump.isNone then .ready else .done) jump))) := fun jump W3 hk3 => by
    have hl3 := (hk3.2 (w.heap.size + 1) (by omega) (by omega)).trans hl2
    have := run_endRound (P := P) jump hl3
    rw [hrec] at this ⊢
    refine ⟨this, by rw [hrec] at hl3; exact hl3, World.putObj_heap_same (Array.getElem?_eq_some_iff.1 hl3).1, (World.putObj_heap_other (by omega)).trans ((hk3.2 w.heap.size (by omega) (by omega)).trans hk2), ?_, fun g h1 h2 => ?_⟩
    · have := hk3.1; simpa [World.putObj] using this
    · refine (World.putObj_heap_other (by omega)).trans ((hk3.2 g (by omega) h2).trans ((World.putObj_heap_other (by omega)).trans (hkr.2 g (by omega) h2)))
   rintro e a3 W3 hp3
   cases e with
   | normal =>
    obtain ⟨hr, hl3, hl4, hk4, hk5⟩ := fin none W3 hp3.1
    exact ⟨_, _, hr, .inl ⟨rfl, ⟨hI hi _ _ _ _ hp3.2 (grownBy_putObj' _ _ _) (fun x e => by cases e; omega), hl4, hk4⟩, hk5⟩⟩
   | ret =>
    obtain ⟨hr, hl3, hl4, hk4, hk5⟩ := fin (some .ret) W3 hp3.1
    exact ⟨_, _, hr, .inr ⟨rfl, .ret, hIx _ hi _ _ _ _ hp3.2 (grownBy_putObj' _ _ _) (fun x e => by cases e; omega), hl4, hk4⟩⟩
   | exit id =>
    obtain ⟨hr, hl3, hl4, hk4, hk5⟩ := fin (some (.exit id)) W3 hp3.1
    exact ⟨_, _, hr, .inr ⟨rfl, .exit id, hIx _ hi _ _ _ _ hp3.2 (grownBy_putObj' _ _ _) (fun x e => by cases e; omega), hl4, hk4⟩⟩
   | goto t =>
    obtain ⟨hr, hl3, hl4, hk4, hk5⟩ := fin (some (.goto t)) W3 hp3.1
    exact ⟨_, _, hr, .inr ⟨rfl, .goto t, hIx _ hi _ _ _ _ hp3.2 (grownBy_putObj' _ _ _) (fun x e => by cases e; omega), hl4, hk4⟩⟩
   | panic ch => exact hp3.elim
   | outgrown => exact hp3.elim
  | ret => exact hpost.elim
  | exit id => exact hpost.elim
  | goto t => exact hpost.elim
  | panic ch => exact hpost.elim
  | outgrown => exact hpost.elim
 rintro e W2 ⟨⟨v, rfl⟩, hi, hhi, (⟨hi', hl, hk⟩ | ⟨i, hiN, c, hi', hl, hk⟩)⟩
 · exact ⟨none, _, by have := run_endLoop (P := P) hl (by rw [hrec]; simp); rw [hrec] at this; exact this, hdone hi _ (by omega) (hI hi _ _ _ _ hi' (grownBy_putObj' _ _ _) (fun x e => by cases e; omega)) ((World.putObj_heap_other (by omega)).trans hk)⟩
 · exact ⟨some c, _, by have := run_endLoop (P := P) hl (by rw [hrec]; simp); rw [hrec] at this; exact this, wpIn_wide.2 (hstop c hi i _ (by omega) hiN (hIx c hi _ _ _ _ hi' (grownBy_putObj' _ _ _) (fun x e => by cases e; omega)) ((World.putObj_heap_other (by omega)).trans hk))⟩
theorem ru_beginIn {P : Program} {ops : Array Oper} {Q : Exit -> Act -> World -> Prop} {l n id : Nat} {a : Act} {w : World} (S : World -> Prop) (d : Nat) (hm : P.follows .mixedOrders = true) (hd : noDefer ops = true) (hQ : ¬ LetsOut Q) (hS : S w.drew)
  (h : wpAnyU P .any ops Q S d ops.size (Array.replicate ops.size false) a w.drew) : (Code.region id ops true).wpIn (Fence.wide.inRound l) n P Q a w :=
 wpIn_draw hm hd hQ (wpAny_of_U _ _ _ _ h)
def calmQ (Q : Exit -> Act -> World -> Prop) : Exit -> Act -> World -> Prop
 | .panic _, _, _ => False
 | .outgrown, _, _ => False
 | e, a, w => Q e a w
theorem calmQ_le {Q : Exit -> Act -> World -> Prop} (e : Exit) (a : Act) (w : World) (h : calmQ Q e a w) : Q e a w := by
 cases e <;> first | exact h | exact h.elim
def rfix (g : Nat) (t : TypeId) (cs : Array Value) : Res := ⟨false, fun x => x = g, fun w => Bk w g t cs, fun _ _ _ hg hr h => Bk.gb h hg (fun e => hr g e.symm rfl)⟩
theorem Bun.fix0 {w0 : World} {L : List Res} {g : Nat} {t : TypeId} {cs : Array Value} (h : Bun w0 L w0) (hs : Bk w0 g t cs) (hm : L.all (fun r => !r.mine) = true) : Bun w0 (rfix g t cs :: L) w0 := by
 have hm' : ∀ r ∈ L, r.mine = false := fun r hr => by have := List.all_eq_true.1 hm r hr; simpa using this
 refine ⟨fun r hr => ?_, fun r hr g hx => ?_, ?_, h.gb⟩
 ·
  rcases List.mem_cons.1 hr with rfl | hr
  · exact hs
  · exact h.all r hr
 ·
  rcases List.mem_cons.1 hr with rfl | hr
  · cases hx; exact ⟨hs.lt, fun e => by cases e⟩
  · exact h.bd r hr g hx
 rw [List.pairwise_cons]
 exact ⟨(fun x hx hmm => by
  rw [hm' x hx] at hmm
  rcases hmm with h1 | h1 <;> cases h1), h.dis⟩
theorem Bun.non0 {w0 : World} {L : List Res} (r0 : Res) (h : Bun w0 L w0) (hs : r0.P w0) (hx : ∀ g, r0.X g -> g < w0.heap.size) (hr0 : r0.mine = false) (hm : L.all (fun r => !r.mine) = true) : Bun w0 (r0 :: L) w0 := by
 have hm' : ∀ r ∈ L, r.mine = false := fun r hr => by have := List.all_eq_true.1 hm r hr; simpa using this
 refine ⟨fun r hr => ?_, fun r hr g hx' => ?_, ?_, h.gb⟩
 ·
  rcases List.mem_cons.1 hr with rfl | hr
  · exact hs
  · exact h.all r hr
 ·
  rcases List.mem_cons.1 hr with rfl | hr
  · exact ⟨hx g hx', fun e => by rw [hr0] at e; cases e⟩
  · exact h.bd r hr g hx'
 rw [List.pairwise_cons]
 exact ⟨(fun x hx hmm => by
  rw [hm' x hx, hr0] at hmm
  rcases hmm with h1 | h1 <;> cases h1), h.dis⟩
theorem flat_at' {α : Type} {enc : α -> List Value} {sz : Nat} (hsz : ∀ x, (enc x).length = sz) : ∀ (l : List α) (i : Nat) (x : α), l[i]? = some x -> ∀ j u, (enc x)[j]? = some u -> (l.flatMap enc)[i * sz + j]? = some u := by
 intro l
 induction l with
 | nil => intro i x h; simp at h
 | cons y l ih =>
  intro i x hi j u hj
  have hjl : j < sz := by have := (List.getElem?_eq_some_iff.1 hj).1; rw [hsz] at this; exact this
  rw [List.flatMap_cons]
  cases i with
  | zero =>
   simp at hi
   subst hi
   rw [List.getElem?_append_left (by rw [hsz]; omega)]
   simpa using hj
  | succ i =>
   rw [List.getElem?_append_right (by rw [hsz, Nat.succ_mul]; omega), hsz]
   have : (i + 1) * sz + j - sz = i * sz + j := by rw [Nat.succ_mul]; omega
   rw [this]
   exact ih i x (by simpa using hi) j u hj
theorem Bun.lit {α : Type} (enc : α -> List Value) (sz : Nat) (l : List α) (c : Nat) {w0 A : World} {L : List Res} {g : Nat} {t : TypeId} {cs : Array Value} (h : Bun w0 (rbox g t cs :: L) A) (hsz : ∀ x, (enc x).length = sz) (hcs : cs.toList = l.flatMap enc) (hl : l.length <= 1000) :
  Bun w0 (rsl enc sz g (g + 1) (.slice (some ⟨g, 0, none⟩) l.length c) l :: L) A := by
 have hb : Bk A g t cs := h.all _ (.head _)
 have hs : Sl enc sz g (g + 1) A (.slice (some ⟨g, 0, none⟩) l.length c) l :=
  ⟨by unfold maxLen; omega, _, c, rfl, .inr ⟨g, 0, rfl, Nat.le_refl _, by omega, fun i x hi j u hj => by
   have h1 := flat_at' hsz l i x hi j u hj
   rw [← hcs] at h1
   rw [show 0 + i * sz + j = i * sz + j by omega, hb.cell]
   simpa using h1⟩⟩
 have hd := h.dis
 rw [List.pairwise_cons] at hd
 refine ⟨fun r hr => ?_, fun r hr x hx => ?_, ?_, h.gb⟩
 ·
  rcases List.mem_cons.1 hr with rfl | hr
  · exact hs
  · exact h.all r (.tail _ hr)
 ·
  rcases List.mem_cons.1 hr with rfl | hr
  ·
   have e : x = g := by have := hx.1; have := hx.2; omega
   subst e
   exact ⟨hb.lt, fun e => by cases e⟩
  · exact h.bd r (.tail _ hr) x hx
 rw [List.pairwise_cons]
 refine ⟨fun x hx hm y hy1 hy2 => ?_, hd.2⟩
 have e : y = g := by have := hy1.1; have := hy1.2; omega
 subst e
 exact hd.1 x hx (.inl rfl) y rfl hy2
def rmarks (Ds : List Nat) : Res :=
 ⟨true, fun x => x ∈ Ds, fun w => Ds.Nodup /\ ∀ D ∈ Ds, w.heap[D]? = some (.deferred (some [])), fun _ _ _ hg hr h => ⟨h.1, fun D hD => (hg.block D (Array.getElem?_eq_some_iff.1 (h.2 D hD)).1 (fun e => hr D e.symm hD)).trans (h.2 D hD)⟩⟩
def mkD (D : Nat) : Deferred := { target := .collected D, args := #[] }
section
variable {w0 A B : World} {L : List Res} {sd : Nat}
theorem Bun.marks0 (h : Bun w0 L A) : Bun w0 (rmarks [] :: L) A := h.add (rmarks []) (gb_refl _ _) ⟨List.nodup_nil, fun _ h => by cases h⟩ fun _ e => by cases e
theorem Bun.mark {lo hi : Nat} {W0 : World} {Ds : List Nat} (h : Bun w0 (rkeep lo hi W0 :: rmarks Ds :: L) A) (hlt : lo < hi) (hk : A.heap[lo]? = some (.deferred (some []))) : Bun w0 (rmarks (lo :: Ds) :: L) A := by
 have h1 : KeepR lo hi W0 A := h.all _ (.head _)
 have h2 : Ds.Nodup /\ ∀ D ∈ Ds, A.heap[D]? = some (.deferred (some [])) := h.all _ (.tail _ (.head _))
 have hd := h.dis
 rw [List.pairwise_cons] at hd
 have hd2 := hd.2
 rw [List.pairwise_cons] at hd2
 have hn : lo ∉ Ds := fun hm => hd.1 _ (.head _) (.inl rfl) lo ⟨Nat.le_refl _, hlt⟩ hm
 refine ⟨fun r hr => ?_, fun r hr g hx => ?_, ?_, h.gb⟩
 ·
  rcases List.mem_cons.1 hr with rfl | hr
  ·
   exact ⟨List.nodup_cons.2 ⟨hn, h2.1⟩, fun D hD => by
    rcases List.mem_cons.1 hD with rfl | hD
    · exact hk
    · exact h2.2 D hD⟩
  · exact h.all r (.tail _ (.tail _ hr))
 ·
  rcases List.mem_cons.1 hr with rfl | hr
  ·
   rcases List.mem_cons.1 hx with rfl | hx
   · exact h.bd _ (.head _) g ⟨Nat.le_refl _, hlt⟩
   · exact h.bd _ (.tail _ (.head _)) g hx
  · exact h.bd r (.tail _ (.tail _ hr)) g hx
 rw [List.pairwise_cons]
 refine ⟨fun x hx hm g hg1 hg2 => ?_, hd2.2⟩
 rcases List.mem_cons.1 hg1 with rfl | hg1
 · exact hd.1 x (.tail _ hx) (.inl rfl) g ⟨Nat.le_refl _, hlt⟩ hg2
 · exact hd2.1 x hx (.inl rfl) g hg1 hg2
theorem Bun.marks {Ds : List Nat} (h : Bun w0 (rmarks Ds :: L) A) : Marks w0.heap.size A (Ds.map mkD) := by
 have h2 : Ds.Nodup /\ ∀ D ∈ Ds, A.heap[D]? = some (.deferred (some [])) := h.all _ (.head _)
 exact ⟨Ds, rfl, h2.1, fun D hD => ⟨(h.bd _ (.head _) D hD).2 rfl, h2.2 D hD⟩⟩
end
structure AllocS where
 k : Nat
 d : Nat
 t : TypeId
 cs : Array Value
 v : Nat -> Value
def mrk (l : Array Bool) : List Nat -> Array Bool
 | [] => l
 | i :: is => mrk (l.setIfInBounds i true) is
theorem mrk_size : ∀ (is : List Nat) (l : Array Bool), (mrk l is).size = l.size
 | [], _ => rfl
 | i :: is, l => by rw [mrk, mrk_size is]; simp
theorem mrk_get : ∀ (is : List Nat) (l : Array Bool) (i : Nat), i < l.size -> ((mrk l is).getD i false = true ↔ l.getD i false = true ∨ i ∈ is)
 | [], l, i, h => by simp [mrk]
 | x :: is, l, i, h => by
  rw [mrk, mrk_get is _ i (by simpa using h)]
  by_cases e : x = i
  · subst e; simp [h]
  rw [getD_set_ne false e]
  simp [Ne.symm e]
def Ups (l0 listed : Array Bool) (X : Nat -> Prop) : Prop := listed.size = l0.size /\ ∀ i, i < l0.size -> (listed.getD i false = true ↔ l0.getD i false = true ∨ X i)
theorem getD_tf {l : Array Bool} {i : Nat} (h : i < l.size) : l.getD i true = l.getD i false := by simp [h]
theorem getD_lt {l : Array Bool} {i : Nat} (h : l.getD i true = false) : i < l.size := by
 rcases Nat.lt_or_ge i l.size with h' | h'
 · exact h'
 · simp [Array.getElem?_eq_none h'] at h
theorem getD_lt' {l : Array Bool} {i : Nat} (h : l.getD i false = true) : i < l.size := by
 rcases Nat.lt_or_ge i l.size with h' | h'
 · exact h'
 · simp [Array.getElem?_eq_none h'] at h
section
variable {ops : Array Oper} {md : Region.Mode} {l0 listed : Array Bool} {X : Nat -> Prop}
theorem Ups.mrk (l0 : Array Bool) (xs : List Nat) : Ups l0 (mrk l0 xs) (fun i => i ∈ xs) := ⟨mrk_size xs l0, fun i hi => mrk_get xs l0 i hi⟩
theorem Ups.set {i : Nat} (h : Ups l0 listed X) : Ups l0 (listed.setIfInBounds i true) (fun x => X x ∨ x = i) := by
 refine ⟨by simpa using h.1, fun x hx => ?_⟩
 by_cases e : i = x
 ·
  subst e
  have : i < listed.size := by rw [h.1]; exact hx
  simp [this]
 rw [getD_set_ne false e, h.2 x hx]
 constructor
 ·
  rintro (a | a)
  · exact .inl a
  · exact .inr (.inl a)
 rintro (a | a | a)
 · exact .inl a
 · exact .inr a
 · exact absurd a.symm e
theorem Ups.ext {listed' : Array Bool} (h : Ups l0 listed X) (h' : Ups l0 listed' X) : listed = listed' := by
 refine Array.ext (h.1.trans h'.1.symm) fun i h1 h2 => ?_
 have hi : i < l0.size := by rw [← h.1]; exact h1
 have a := (h.2 i hi).trans (h'.2 i hi).symm
 simp only [Array.getD_eq_getD_getElem?, Array.getElem?_eq_getElem h1, Array.getElem?_eq_getElem h2, Option.getD_some] at a
 cases e1 : listed[i] <;> cases e2 : listed'[i] <;> simp_all
theorem Ups.congr {Y : Nat -> Prop} (h : Ups l0 listed X) (hxy : ∀ i, X i ↔ Y i) : Ups l0 listed Y := ⟨h.1, fun i hi => by rw [h.2 i hi, hxy i]⟩
theorem ready_more {listed' : Array Bool} {Y : Nat -> Prop} {i : Nat} (h : Ups l0 listed X) (h' : Ups l0 listed' Y) (hxy : ∀ x, X x -> Y x) (hi : i ∈ Region.ready md ops listed) (hn : ¬ Y i) : i ∈ Region.ready md ops listed' := by
 rw [mem_ready] at hi ⊢
 obtain ⟨h0, o, ho, ha⟩ := hi
 have hl := getD_lt h0
 rw [getD_tf hl] at h0
 have hl0 : i < l0.size := by rw [← h.1]; exact hl
 have hl' : i < listed'.size := by rw [h'.1]; exact hl0
 refine ⟨?_, o, ho, fun e he hb => ?_⟩
 ·
  rw [getD_tf hl']
  have : ¬ listed'.getD i false = true := fun e => by
   rcases (h'.2 i hl0).1 e with e1 | e1
   · have := (h.2 i hl0).2 (.inl e1); rw [h0] at this; cases this
   · exact hn e1
  simpa using this
 have h1 := ha e he hb
 have hx : e.on < l0.size := by rw [← h.1]; exact getD_lt' h1
 rcases (h.2 _ hx).1 h1 with h2 | h2
 · exact (h'.2 _ hx).2 (.inl h2)
 · exact (h'.2 _ hx).2 (.inr (hxy _ h2))
end
def upd (t : Nat -> Value) (d : Nat) (v : Value) : Nat -> Value := fun i => if i = d then v else t i
theorem slot_put {a : Act} {d : Nat} {v : Value} (h : d < a.tmps.size) : slot (a.put (some d) v).tmps = upd (slot a.tmps) d v := by
 funext i
 unfold slot upd
 by_cases e : i = d
 · subst e; simp [Act.put, h]
 · simp [Act.put, e, Array.getElem?_setIfInBounds_ne (Ne.symm e)]
theorem frame_slots {T : Array Value} {n : Nat} (hT : T.size = n) : T = ((List.range n).map (slot T)).toArray := by
 refine Array.ext (by simp [hT]) fun i h1 h2 => ?_
 simp [slot, h1]
section
variable {P : Program} {ops : Array Oper} {Q : Exit -> Act -> World -> Prop} {md : Region.Mode} {S : World -> Prop} {d : Nat}
structure GoodG (G : List Res -> World -> Prop) : Prop where
 gn : ∀ L A B, G L A -> A.grownBy B none -> G L B
 new : ∀ L A t cs, G L A -> G (rbox A.heap.size t cs :: L) (A.alloc (.cells cs t))
 perm : ∀ L L' A, G L A -> L.Perm L' -> G L' A
theorem goodBunS (w0 : World) (k : Nat) : GoodG (fun L W => Bun w0 L W /\ k <= W.heap.size) := ⟨fun _ _ _ h hg => ⟨h.1.gn hg, Nat.le_trans h.2 hg.size⟩, fun _ _ t cs h => ⟨h.1.new t cs rfl, by have := h.2; simp; omega⟩, fun _ _ _ h hp => ⟨h.1.perm hp, h.2⟩⟩
def ptrOf (g : Nat) : Value := .pointer (some ⟨g, 0, none⟩)
def Step (P : Program) (ops : Array Oper) (Q : Exit -> Act -> World -> Prop) (S : World -> Prop) (G : List Res -> World -> Prop) (n : Nat) (ls : List AllocS) (i : Nat) (U U' : (Nat -> Value) -> Prop) (Lb Lb' : List Res) : Prop :=
 ∀ (t : Nat -> Value) (w : World) (LA : List Res), U t -> G (Lb ++ LA) w →
  wpOp P ops Q i (fun a' w' => a'.tmps.size = n /\ a'.defers = [] /\ U' (slot a'.tmps) /\ (∀ al ∈ ls, slot a'.tmps al.d = t al.d) /\ G (Lb' ++ LA) w' /\ S w') { tmps := ((List.range n).map t).toArray, defers := [] } w
def StepP (P : Program) (ops : Array Oper) (n : Nat) (ls : List AllocS) (oi : Oper) (U U' : (Nat -> Value) -> Prop) : Prop :=
 ∀ (t : Nat -> Value), U t -> ∃ v, YieldsIf P ops (fun _ => True) oi v { tmps := ((List.range n).map t).toArray, defers := [] } ∧
  ((Act.put { tmps := ((List.range n).map t).toArray, defers := [] } oi.dst v).tmps.size = n /\ (Act.put { tmps := ((List.range n).map t).toArray, defers := [] } oi.dst v).defers = []) ∧
  U' (slot (Act.put { tmps := ((List.range n).map t).toArray, defers := [] } oi.dst v).tmps) /\ ∀ al ∈ ls, slot (Act.put { tmps := ((List.range n).map t).toArray, defers := [] } oi.dst v).tmps al.d = t al.d
inductive Chain (P : Program) (ops : Array Oper) (Q : Exit -> Act -> World -> Prop) (G : List Res -> World -> Prop) (S : World -> Prop) (V : (Nat -> Value) -> Prop) (n : Nat) (ls : List AllocS) (md : Region.Mode) (l0 : Array Bool) (d : Nat) : List Nat -> List Nat -> ((Nat -> Value) -> Prop) -> List Res -> ((Nat -> Value) -> Prop) -> List Res -> Prop
 | nil (pre : List Nat) (U : (Nat -> Value) -> Prop) (Lb : List Res) (hst : ∀ al ∈ ls, ∀ t v, U t -> U (upd t al.d v)) (hS : ∀ LA w, G (Lb ++ LA) w -> S w) (hV : ∀ t, U t -> V t) : Chain P ops Q G S V n ls md l0 d pre [] U Lb U Lb
 | call (pre : List Nat) (i : Nat) (is : List Nat) (U U' Um : (Nat -> Value) -> Prop) (Lb Lb' Lm : List Res)
   (hst : ∀ al ∈ ls, ∀ t v, U t -> U (upd t al.d v)) (hS : ∀ LA w, G (Lb ++ LA) w -> S w) (hV : ∀ t, U t -> V t) (hc : (Region.ready md ops (mrk l0 (pre ++ ls.map (·.k))) == [i] && (Region.ready md ops (mrk l0 pre)).contains i && decide (i ≠ d) && closedB md ops (mrk l0 pre)) = true)
   (hs : Step P ops Q S G n ls i U U' Lb Lb') (hr : Chain P ops Q G S V n ls md l0 d (pre ++ [i]) is U' Lb' Um Lm) : Chain P ops Q G S V n ls md l0 d pre (i :: is) U Lb Um Lm
 | pure (pre : List Nat) (i : Nat) (oi : Oper) (is : List Nat) (U U' Um : (Nat -> Value) -> Prop) (Lb Lm : List Res) (hi : ops[i]? = some oi)
   (hst : ∀ al ∈ ls, ∀ t v, U t -> U (upd t al.d v)) (hS : ∀ LA w, G (Lb ++ LA) w -> S w) (hV : ∀ t, U t -> V t) (hc : (Region.free md ops (mrk l0 pre) i && (Region.ready md ops (mrk l0 pre)).contains i && decide (i ≠ d) && closedB md ops (mrk l0 pre)) = true)
   (hs : StepP P ops n ls oi U U') (hr : Chain P ops Q G S V n ls md l0 d (pre ++ [i]) is U' Lb Um Lm) : Chain P ops Q G S V n ls md l0 d pre (i :: is) U Lb Um Lm
theorem Chain.callS {P : Program} {ops : Array Oper} {Q : Exit -> Act -> World -> Prop} {G : List Res -> World -> Prop} {S : World -> Prop} {V : (Nat -> Value) -> Prop} {n : Nat} {ls : List AllocS} {md : Region.Mode} {l0 : Array Bool} {d : Nat} {pre : List Nat} (i : Nat) {is : List Nat} {U : (Nat -> Value) -> Prop} (U' : (Nat -> Value) -> Prop) {Um : (Nat -> Value) -> Prop} {Lb Lm : List Res}
  (hst : ∀ al ∈ ls, ∀ t v, U t -> U (upd t al.d v)) (hS : ∀ LA w, G (Lb ++ LA) w -> S w) (hV : ∀ t, U t -> V t) (hc : (Region.ready md ops (mrk l0 (pre ++ ls.map (·.k))) == [i] && (Region.ready md ops (mrk l0 pre)).contains i && decide (i ≠ d) && closedB md ops (mrk l0 pre)) = true)
  (hs : Step P ops Q S G n ls i U U' Lb Lb) (hr : Chain P ops Q G S V n ls md l0 d (pre ++ [i]) is U' Lb Um Lm) : Chain P ops Q G S V n ls md l0 d pre (i :: is) U Lb Um Lm := Chain.call _ _ _ _ U' _ _ Lb _ hst hS hV hc hs hr
theorem Chain.pureS {P : Program} {ops : Array Oper} {Q : Exit -> Act -> World -> Prop} {G : List Res -> World -> Prop} {S : World -> Prop} {V : (Nat -> Value) -> Prop} {n : Nat} {ls : List AllocS} {md : Region.Mode} {l0 : Array Bool} {d : Nat} {pre : List Nat} (i : Nat) {oi : Oper} {is : List Nat} {U : (Nat -> Value) -> Prop} (U' : (Nat -> Value) -> Prop) {Um : (Nat -> Value) -> Prop} {Lb Lm : List Res} (hi : ops[i]? = some oi)
  (hst : ∀ al ∈ ls, ∀ t v, U t -> U (upd t al.d v)) (hS : ∀ LA w, G (Lb ++ LA) w -> S w) (hV : ∀ t, U t -> V t) (hc : (Region.free md ops (mrk l0 pre) i && (Region.ready md ops (mrk l0 pre)).contains i && decide (i ≠ d) && closedB md ops (mrk l0 pre)) = true)
  (hs : StepP P ops n ls oi U U') (hr : Chain P ops Q G S V n ls md l0 d (pre ++ [i]) is U' Lb Um Lm) : Chain P ops Q G S V n ls md l0 d pre (i :: is) U Lb Um Lm := Chain.pure _ _ _ _ _ U' _ _ _ hi hst hS hV hc hs hr
theorem wpOp_stepH {P : Program} {ops : Array Oper} {Q : Exit -> Act -> World -> Prop} {i : Nat} {o : Oper} {K : Act -> World -> Prop} {a : Act} {w : World} (ho : ops[i]? = some o)
  (h : ∀ K' : Act -> World -> Prop, Hid (∀ a w, K a w -> K' a w) -> if Region.wanted o (yielded ops a.tmps) = true then Oper.wp P o a w K' Q else K' (a.put o.dst undef) w) : wpOp P ops Q i K a w := wpOp_step ho fun K' hK => h K' (lhd hK)
end
section
variable {w0 A B : World} {L : List Res} {sd : Nat}
theorem Bun.seedAt (i : Nat) {s : Nat} (h : Bun w0 L A) (hi : L[i]? = some (rseed s)) (hg : A.grownBy B (some s)) (hs : SeedAt B s) : Bun w0 L B := by
 have hp := perm_front L i _ hi
 exact ((h.perm hp).seed hg hs).perm hp.symm
theorem Bus.seedAt (i : Nat) {s : Nat} (h : Bus w0 sd L A) (hi : L[i]? = some (rseed s)) (hg : A.grownBy B (some s)) (hs : SeedAt B s) : Bus w0 sd L B := by
 have hp := perm_front L i _ hi
 exact ((h.perm hp).seed hg hs).perm hp.symm
end
theorem xor_bd (a b : Int) : 0 <= bits .xor .u64 a b /\ bits .xor .u64 a b < 18446744073709551616 := by
 show 0 <= IntKind.u64.wrap _ /\ IntKind.u64.wrap _ < 18446744073709551616
 rw [IntKind.wrap_u64]
 omega
set_option maxHeartbeats 400000 in
theorem next_c (b : Nat) (w : World) (hs : SeedAt w b) :
  Calls Try.prog 20 #[.pointer (some ⟨b, 0, none⟩)] w (Gen .u64 (fun r => 0 <= r /\ r < 18446744073709551616) b w) := by
 obtain ⟨u, hc, hf⟩ := hs.facts
 go_enter Try.func20, Try.ntmps20
 go_wp2
 go_ret
 exact ⟨_, rfl, xor_bd _ _, hs.set _, gb_setCell (gb_refl _ _) (.inl rfl) _⟩
def belowR (n : Int) (r : Int) : Prop := 0 <= r /\ (r < n ∨ r = 0)
set_option maxHeartbeats 400000 in
theorem below_c (b : Nat) (n : Int) (w : World) (hs : SeedAt w b) (h1 : -9223372036854775808 <= n) (h2 : n <= 9223372036854775807) :
  Calls Try.prog 10 #[.pointer (some ⟨b, 0, none⟩), .int .i64 n] w (Gen .i64 (belowR n) b w) := by
 by_cases hn : n < 2
 ·
  go_enter Try.func10, Try.ntmps10
  go_wp2
  go_ret
  exact ⟨_, rfl, ⟨by simp, by simp⟩, hs, gb_refl _ _⟩
 go_enter Try.func10, Try.ntmps10
 go_wp2_with (go_at_call 20; refine (next_c b _ hs).mono ?_; rintro e w1 ⟨r, rfl, ⟨hr1, hr2⟩, hs1, hg1⟩)
 go_ret
 have e1 : 0 <= r / 2 % n := Int.emod_nonneg _ (by omega)
 have e2 : r / 2 % n < n := Int.emod_lt_of_pos _ (by omega)
 exact ⟨_, rfl, by rw [IntWalk.wrap64_in _ ⟨by omega, by omega⟩]; exact ⟨e1, .inl e2⟩, hs1, hg1⟩
def fromR (low high : Int) (r : Int) : Prop := low <= r /\ (r <= high ∨ r = low)
set_option maxHeartbeats 400000 in
theorem from_c (b : Nat) (low high : Int) (w : World) (hs : SeedAt w b) (h1 : -1000000000000 <= low) (h2 : low <= 1000000000000) (h3 : -1000000000000 <= high) (h4 : high <= 1000000000000) :
  Calls Try.prog 22 #[.pointer (some ⟨b, 0, none⟩), .int .i64 low, .int .i64 high] w (Gen .i64 (fromR low high) b w) := by
 go_enter Try.func22, Try.ntmps22
 go_wp2_with (go_at_call 10; refine (below_c b _ _ hs (by omega) (by omega)).mono ?_; rintro e w1 ⟨r, rfl, ⟨hr1, hr2⟩, hs1, hg1⟩)
 go_ret
 exact ⟨_, rfl, ⟨by omega, by omega⟩, hs1, hg1⟩
def GenB (b : Nat) (w : World) (e : Ending) (w' : World) : Prop :=
 ∃ r : Bool, e = .returned (.bool r) /\ SeedAt w' b /\ w.grownBy w' (some b)
set_option maxHeartbeats 400000 in
theorem yes_c (b : Nat) (n : Int) (w : World) (hs : SeedAt w b) (h1 : -9223372036854775808 <= n) (h2 : n <= 9223372036854775807) :
  Calls Try.prog 8 #[.pointer (some ⟨b, 0, none⟩), .int .i64 n] w (GenB b w) := by
 go_enter Try.func8, Try.ntmps8
 go_wp2_with (go_at_call 10; refine (below_c b _ _ hs (by omega) (by omega)).mono ?_; rintro e w1 ⟨r, rfl, hr1, hs1, hg1⟩)
 go_ret
 exact ⟨_, rfl, hs1, hg1⟩
set_option maxHeartbeats 400000 in
theorem of_c (b : Nat) (w : World) (hs : SeedAt w b) (g off n c : Nat) (l : Nat -> Int) (h0 : 0 < n) (hn : n <= 9223372036854775807) (hgb : g ≠ b)
  (hl : ∀ i, i < n -> w.cell? ⟨g, off + i, none⟩ = some (.int .i64 (l i))) :
  Calls Try.prog 21 #[.pointer (some ⟨b, 0, none⟩), .slice (some ⟨g, off, none⟩) n c] w (Gen .i64 (fun r => ∃ i, i < n /\ r = l i) b w) := by
 have hgl : g < w.heap.size := cell_lt (hl 0 h0)
 have hl' : ∀ w1 : World, w.grownBy w1 (some b) -> ∀ i, i < n -> w1.cell? ⟨g, off + i, none⟩ = some (.int .i64 (l i)) :=
  fun w1 hg i hi => (gb_cell hg hgl (by simp; omega)).trans (hl i hi)
 have HL := lhd hl'
 clear hl' hl
 go_enter Try.func21, Try.ntmps21
 go_wp2_with (go_at_call 10; refine (below_c b _ _ hs (by omega) (by omega)).mono ?_; rintro e w1 ⟨r, rfl, ⟨hr1, hr2⟩, hs1, hg1⟩; obtain ⟨k, rfl⟩ := Int.eq_ofNat_of_zero_le hr1; have hk : k < n := (by omega); have hcell := HL.out w1 hg1 k hk)
 go_ret
 exact ⟨_, rfl, ⟨k, hk, rfl⟩, hs1, hg1⟩
def partR (lo hi : Int) (v : Value) (_ : World) : Prop := ∃ a c, v = .agg #[.int .i64 a, .int .i64 c] /\ lo <= a /\ a <= c /\ c <= hi
set_option maxHeartbeats 400000 in
theorem spanOf_c (b : Nat) (lo hi : Int) (w : World) (hs : SeedAt w b) (h1 : -1000000000000 <= lo) (h2 : lo <= hi) (h4 : hi <= 1000000000000) :
  Calls Try.prog 23 #[.pointer (some ⟨b, 0, none⟩), .int .i64 lo, .int .i64 hi] w (GenV (partR lo hi) b w) := by
 have hbl := hs.lt
 have hdv : 0 <= hi - lo := by omega
 have hq : 0 <= (hi - lo) / 10 /\ (hi - lo) / 10 <= hi - lo := by omega
 go_enter Try.func23, Try.ntmps23
 go_wp2_with (go_at_call 22; refine (from_c b lo hi _ (hs.alloc _) h1 (by omega) (by omega) h4).mono ?_; rintro e w1 ⟨r, rfl, ⟨hr1, hr2⟩, hs1, hg1⟩)
 have hr3 : r <= hi := by omega
 have hne : some w.heap.size ≠ some b := by simp; omega
 have ho1 := (Bk.new w 27 #[.int .i64 0, .int .i64 0]).gb hg1 hne
 have hG1 := gb_trans (gb_alloc (gb_refl w (some b)) _) hg1
 have hl1 : w.heap.size < w1.heap.size := ho1.lt
 have hne1 : some w1.heap.size ≠ some b := by simp; omega
 clear hr2
 go_wp2_with fail
 refine (below_c b 3 _ (hs1.alloc _) (by omega) (by omega)).mono ?_
 rintro e w2 ⟨k, rfl, ⟨hk1, hk2⟩, hs2, hg2⟩
 have hx2 := (Bk.new w1 27 #[.int .i64 r, .int .i64 r]).gb hg2 hne1
 have ho2 := (ho1.alloc _).gb hg2 hne
 have hG2 := gb_trans (gb_alloc hG1 _) hg2
 clear hg1 hg2 ho1
 have hxc := hx2.c2
 by_cases hk0 : k = 0
 ·
  subst hk0
  clear hk1 hk2
  go_wp2_with fail
  refine (from_c b r (min hi (r + 1 + (hi - lo) / 10)) _ hs2 (by omega) (by omega) (by omega) (by omega)).mono ?_
  rintro e w3 ⟨c, rfl, ⟨hc1, hc2⟩, hs3, hg3⟩
  have hx3 := (hx2.gb hg3 hne1).c2
  have ho3 := (ho2.gb hg3 hne).c2
  have hcc : lo <= r /\ r <= c /\ c <= hi := ⟨hr1, hc1, by omega⟩
  have Hcc := lhd hcc
  clear hcc hc1 hc2 hxc
  go_wp2_with fail
  exact bodyPost_ret (v := .agg #[.int .i64 r, .int .i64 c]) (by simp [results, Try.results23, go_sem, ho3]) rfl
   ⟨_, rfl, ⟨_, _, rfl, Hcc.out⟩, ((hs3.far (by simp; omega) _).far (by simp; omega) _).far (by simp; omega) _, gb_setCell (gb_setCell (gb_setCell (gb_trans hG2 hg3) (.inr (by simp; omega)) _) (.inr (by simp)) _) (.inr (by simp)) _⟩
 by_cases hk1' : k = 1
 ·
  subst hk1'
  clear hk1 hk2 hk0
  go_wp2_with fail
  refine (from_c b r hi _ hs2 (by omega) (by omega) (by omega) (by omega)).mono ?_
  rintro e w3 ⟨c, rfl, ⟨hc1, hc2⟩, hs3, hg3⟩
  have hx3 := (hx2.gb hg3 hne1).c2
  have ho3 := (ho2.gb hg3 hne).c2
  have hcc : lo <= r /\ r <= c /\ c <= hi := ⟨hr1, hc1, by omega⟩
  have Hcc := lhd hcc
  clear hcc hc1 hc2 hxc
  go_wp2_with fail
  exact bodyPost_ret (v := .agg #[.int .i64 r, .int .i64 c]) (by simp [results, Try.results23, go_sem, ho3]) rfl
   ⟨_, rfl, ⟨_, _, rfl, Hcc.out⟩, ((hs3.far (by simp; omega) _).far (by simp; omega) _).far (by simp; omega) _, gb_setCell (gb_setCell (gb_setCell (gb_trans hG2 hg3) (.inr (by simp; omega)) _) (.inr (by simp)) _) (.inr (by simp)) _⟩
 have e0 : (k == 0) = false := by simp [hk0]
 have e1 : (k == 1) = false := by simp [hk1']
 have hoc := ho2.c2
 go_wp2_with fail
 exact bodyPost_ret (v := .agg #[.int .i64 r, .int .i64 r]) (by simp [results, Try.results23, go_sem, hoc]) rfl
  ⟨_, rfl, ⟨_, _, rfl, by omega⟩, (hs2.far (by simp; omega) _).far (by simp; omega) _, gb_setCell (gb_setCell hG2 (.inr (by simp)) _) (.inr (by simp)) _⟩
theorem of2_c (b : Nat) (w : World) (g c : Nat) (x y : Int) (hs : SeedAt w b) (hgb : g ≠ b) (h0 : w.cell? ⟨g, 0, none⟩ = some (.int .i64 x)) (h1 : w.cell? ⟨g, 1, none⟩ = some (.int .i64 y)) :
  Calls Try.prog 21 #[.pointer (some ⟨b, 0, none⟩), .slice (some ⟨g, 0, none⟩) 2 c] w (Gen .i64 (fun r => r = x ∨ r = y) b w) := by
 refine (of_c b w hs g 0 2 c (fun i => [x, y].getD i 0) (by decide) (by decide) hgb (fun i hi => ?_)).mono ?_
 ·
  rcases i with _ | _ | i
  · exact h0
  · exact h1
  · omega
 rintro e w' ⟨r, rfl, ⟨i, hi, rfl⟩, hs, hg⟩
 refine ⟨_, rfl, ?_, hs, hg⟩
 rcases i with _ | _ | i
 · exact .inl rfl
 · exact .inr rfl
 · omega
theorem of3_c (b : Nat) (w : World) (g c : Nat) (x y z : Int) (hs : SeedAt w b) (hgb : g ≠ b) (h0 : w.cell? ⟨g, 0, none⟩ = some (.int .i64 x)) (h1 : w.cell? ⟨g, 1, none⟩ = some (.int .i64 y)) (h2 : w.cell? ⟨g, 2, none⟩ = some (.int .i64 z)) :
  Calls Try.prog 21 #[.pointer (some ⟨b, 0, none⟩), .slice (some ⟨g, 0, none⟩) 3 c] w (Gen .i64 (fun r => r = x ∨ r = y ∨ r = z) b w) := by
 refine (of_c b w hs g 0 3 c (fun i => [x, y, z].getD i 0) (by decide) (by decide) hgb (fun i hi => ?_)).mono ?_
 ·
  rcases i with _ | _ | _ | i
  · exact h0
  · exact h1
  · exact h2
  · omega
 rintro e w' ⟨r, rfl, ⟨i, hi, rfl⟩, hs, hg⟩
 refine ⟨_, rfl, ?_, hs, hg⟩
 rcases i with _ | _ | _ | i
 · exact .inl rfl
 · exact .inr (.inl rfl)
 · exact .inr (.inr rfl)
 · omega
def NewSeedPost (w : World) (e : Ending) (w' : World) : Prop := ∃ g, e = .returned (.pointer (some ⟨g, 0, none⟩)) /\ w.heap.size <= g /\ SeedAt w' g /\ w.grownBy w' none
set_option maxHeartbeats 400000 in
theorem newSeed_c (lo hi : Nat) (v : Value) (zs : List Int) (w : World) (hv : Ints lo hi w v zs) :
  Calls Try.prog 4 #[v] w (NewSeedPost w) := by
 have hm := hv.len
 unfold maxLen at hm
 rcases Nat.eq_zero_or_pos zs.length with h0 | h0
 ·
  obtain ⟨a, c, rfl, rfl⟩ := hv.nil_ h0
  clear h0 hv
  go_enter Try.func4, Try.ntmps4
  go_wp2
  refine wp_loop_rounds 1 ?_
  rw [rounds_succ]
  go_wp2
  go_ret
  exact ⟨_, rfl, Nat.le_refl _, ⟨1, Bk.new _ _ _⟩, gb_alloc (gb_refl _ _) _⟩
 obtain ⟨b, off, c, rfl, _, _, h3⟩ := Ints.form' hv h0
 have H3 := lhd h3
 clear h3 hv
 go_enter Try.func4, Try.ntmps4
 go_wp2
 go_loopw [4] (fun i wr => ∃ k : Nat, k <= zs.length /\ i = .int .i64 k /\ SeedAt wr w.heap.size /\ w.grownBy wr none) (fun i _ => zs.length - (intOf i).toNat)
 case atStart => exact ⟨0, Nat.zero_le _, rfl, ⟨1, Bk.new _ _ _⟩, gb_alloc (gb_refl _ _) _⟩
 case round =>
  obtain ⟨k, hk, rfl, hs, hg⟩ := hrel
  by_cases hlt : k < zs.length
  ·
   have hcell : wr.cell? ⟨b, off + k, none⟩ = some (.int .i64 zs[k]) := gbc hg (by simp) (H3.out k hlt)
   obtain ⟨u, hu, hf⟩ := hs.facts
   go_wp2_with fail
   go_region
   clear hu hf hcell
   go_wp2_with (go_at_call 20; refine (next_c w.heap.size _ (SeedAt.set hs _).drew).mono ?_; rintro e w1 ⟨r, rfl, hr, hs1, hg1⟩)
   go_roundw
   case rel =>
    have hrel' : ∃ k' : Nat, k' <= zs.length /\ Value.int .i64 ((k : Int) + 1) = .int .i64 k' /\ SeedAt w1 w.heap.size /\ w.grownBy w1 none :=
     ⟨k + 1, by omega, by go_num, hs1, gb_trans' (gb_drew (gb_setCell hg (.inr (Nat.le_refl _)) _)) hg1 (fun g e => by cases e; exact .inr (Nat.le_refl _))⟩
    exact hrel'
   case measure => simp [intOf]; omega
  go_wp2_with fail
  go_ret
  exact ⟨_, rfl, Nat.le_refl _, hs, hg⟩
theorem Bun.s {w0 A : World} {L : List Res} (h : Bun w0 L A) (i : Nat) {α : Type} {enc : α -> List Value} {sz lo hi : Nat} {v : Value} {l : List α} (e : L[i]? = some (rsl enc sz lo hi v l)) : Sl enc sz lo hi A v l := h.at i e
theorem Bun.b {w0 A : World} {L : List Res} (h : Bun w0 L A) (i : Nat) {g : Nat} {t : TypeId} {cs : Array Value} (e : (L[i]?).map Res.P = some (fun w => Bk w g t cs)) : Bk A g t cs := by
 cases hr : L[i]? with
 | none => rw [hr] at e; cases e
 | some r =>
  rw [hr] at e
  have e2 : r.P = fun w => Bk w g t cs := Option.some.inj e
  have h2 := h.at i hr
  rw [e2] at h2
  exact h2
theorem Bun.o {w0 A : World} {L : List Res} (h : Bun w0 L A) (i : Nat) {α : Type} {enc : α -> List Value} {t : TypeId} {sz base : Nat} {v : Value} {l : List α} (e : L[i]? = some (rown enc t sz base v l)) : Own enc t sz base A v l := h.at i e
theorem Bun.e {w0 A : World} {L : List Res} (h : Bun w0 L A) (i : Nat) {g : Nat} (e : L[i]? = some (rseed g)) : SeedAt A g := h.at i e
theorem Bus.s {w0 A : World} {sd : Nat} {L : List Res} (h : Bus w0 sd L A) (i : Nat) {α : Type} {enc : α -> List Value} {sz lo hi : Nat} {v : Value} {l : List α} (e : L[i]? = some (rsl enc sz lo hi v l)) : Sl enc sz lo hi A v l := h.at i e
theorem Bus.b {w0 A : World} {sd : Nat} {L : List Res} (h : Bus w0 sd L A) (i : Nat) {g : Nat} {t : TypeId} {cs : Array Value} (e : (L[i]?).map Res.P = some (fun w => Bk w g t cs)) : Bk A g t cs := by
 cases hr : L[i]? with
 | none => rw [hr] at e; cases e
 | some r =>
  rw [hr] at e
  have e2 : r.P = fun w => Bk w g t cs := Option.some.inj e
  have h2 := h.at i hr
  rw [e2] at h2
  exact h2
theorem Bus.o {w0 A : World} {sd : Nat} {L : List Res} (h : Bus w0 sd L A) (i : Nat) {α : Type} {enc : α -> List Value} {t : TypeId} {sz base : Nat} {v : Value} {l : List α} (e : L[i]? = some (rown enc t sz base v l)) : Own enc t sz base A v l := h.at i e
theorem Bus.e {w0 A : World} {sd : Nat} {L : List Res} (h : Bus w0 sd L A) (i : Nat) {g : Nat} (e : L[i]? = some (rseed g)) : SeedAt A g := h.at i e
theorem Bun.e8 {w0 A : World} {L : List Res} (h : Bun w0 L A) (i p0 p1 p2 p3 p4 p5 p6 p7 : Nat) {g : Nat} {t : TypeId} {cs : Array Value} {a0 a1 a2 a3 a4 a5 a6 a7 : Value} (e : L[i]? = some (rbox g t cs) := by exact rfl) (f0 : cs[p0]? = some a0 := by exact rfl) (f1 : cs[p1]? = some a1 := by exact rfl) (f2 : cs[p2]? = some a2 := by exact rfl) (f3 : cs[p3]? = some a3 := by exact rfl) (f4 : cs[p4]? = some a4 := by exact rfl) (f5 : cs[p5]? = some a5 := by exact rfl) (f6 : cs[p6]? = some a6 := by exact rfl) (f7 : cs[p7]? = some a7 := by exact rfl) : E8 A g p0 p1 p2 p3 p4 p5 p6 p7 a0 a1 a2 a3 a4 a5 a6 a7 := ⟨h.cl i p0 e f0, h.cl i p1 e f1, h.cl i p2 e f2, h.cl i p3 e f3, h.cl i p4 e f4, h.cl i p5 e f5, h.cl i p6 e f6, h.cl i p7 e f7⟩
theorem Bun.c2 {w0 A : World} {L : List Res} (h : Bun w0 L A) (i : Nat) {g : Nat} {t : TypeId} {cs : Array Value} {a0 a1 : Value} (e : L[i]? = some (rbox g t cs) := by exact rfl) (f0 : cs[0]? = some a0 := by exact rfl) (f1 : cs[1]? = some a1 := by exact rfl) : C2 A g a0 a1 := ⟨h.cl i 0 e f0, h.cl i 1 e f1⟩
theorem Bun.c3 {w0 A : World} {L : List Res} (h : Bun w0 L A) (i : Nat) {g : Nat} {t : TypeId} {cs : Array Value} {a0 a1 a2 : Value} (e : L[i]? = some (rbox g t cs) := by exact rfl) (f0 : cs[0]? = some a0 := by exact rfl) (f1 : cs[1]? = some a1 := by exact rfl) (f2 : cs[2]? = some a2 := by exact rfl) : C3 A g a0 a1 a2 := ⟨h.cl i 0 e f0, h.cl i 1 e f1, h.cl i 2 e f2⟩
theorem Bun.c4 {w0 A : World} {L : List Res} (h : Bun w0 L A) (i : Nat) {g : Nat} {t : TypeId} {cs : Array Value} {a0 a1 a2 a3 : Value} (e : L[i]? = some (rbox g t cs) := by exact rfl) (f0 : cs[0]? = some a0 := by exact rfl) (f1 : cs[1]? = some a1 := by exact rfl) (f2 : cs[2]? = some a2 := by exact rfl) (f3 : cs[3]? = some a3 := by exact rfl) : C4 A g a0 a1 a2 a3 := ⟨h.cl i 0 e f0, h.cl i 1 e f1, h.cl i 2 e f2, h.cl i 3 e f3⟩
theorem Bun.c5 {w0 A : World} {L : List Res} (h : Bun w0 L A) (i : Nat) {g : Nat} {t : TypeId} {cs : Array Value} {a0 a1 a2 a3 a4 : Value} (e : L[i]? = some (rbox g t cs) := by exact rfl) (f0 : cs[0]? = some a0 := by exact rfl) (f1 : cs[1]? = some a1 := by exact rfl) (f2 : cs[2]? = some a2 := by exact rfl) (f3 : cs[3]? = some a3 := by exact rfl) (f4 : cs[4]? = some a4 := by exact rfl) : C5 A g a0 a1 a2 a3 a4 := ⟨h.cl i 0 e f0, h.cl i 1 e f1, h.cl i 2 e f2, h.cl i 3 e f3, h.cl i 4 e f4⟩
theorem Bun.c6 {w0 A : World} {L : List Res} (h : Bun w0 L A) (i : Nat) {g : Nat} {t : TypeId} {cs : Array Value} {a0 a1 a2 a3 a4 a5 : Value} (e : L[i]? = some (rbox g t cs) := by exact rfl) (f0 : cs[0]? = some a0 := by exact rfl) (f1 : cs[1]? = some a1 := by exact rfl) (f2 : cs[2]? = some a2 := by exact rfl) (f3 : cs[3]? = some a3 := by exact rfl) (f4 : cs[4]? = some a4 := by exact rfl) (f5 : cs[5]? = some a5 := by exact rfl) : C6 A g a0 a1 a2 a3 a4 a5 := ⟨h.cl i 0 e f0, h.cl i 1 e f1, h.cl i 2 e f2, h.cl i 3 e f3, h.cl i 4 e f4, h.cl i 5 e f5⟩
theorem Bun.c8 {w0 A : World} {L : List Res} (h : Bun w0 L A) (i : Nat) {g : Nat} {t : TypeId} {cs : Array Value} {a0 a1 a2 a3 a4 a5 a6 a7 : Value} (e : L[i]? = some (rbox g t cs) := by exact rfl) (f0 : cs[0]? = some a0 := by exact rfl) (f1 : cs[1]? = some a1 := by exact rfl) (f2 : cs[2]? = some a2 := by exact rfl) (f3 : cs[3]? = some a3 := by exact rfl) (f4 : cs[4]? = some a4 := by exact rfl) (f5 : cs[5]? = some a5 := by exact rfl) (f6 : cs[6]? = some a6 := by exact rfl) (f7 : cs[7]? = some a7 := by exact rfl) : C8 A g a0 a1 a2 a3 a4 a5 a6 a7 := ⟨h.cl i 0 e f0, h.cl i 1 e f1, h.cl i 2 e f2, h.cl i 3 e f3, h.cl i 4 e f4, h.cl i 5 e f5, h.cl i 6 e f6, h.cl i 7 e f7⟩
theorem Bus.e8 {w0 A : World} {sd : Nat} {L : List Res} (h : Bus w0 sd L A) (i p0 p1 p2 p3 p4 p5 p6 p7 : Nat) {g : Nat} {t : TypeId} {cs : Array Value} {a0 a1 a2 a3 a4 a5 a6 a7 : Value} (e : L[i]? = some (rbox g t cs) := by exact rfl) (f0 : cs[p0]? = some a0 := by exact rfl) (f1 : cs[p1]? = some a1 := by exact rfl) (f2 : cs[p2]? = some a2 := by exact rfl) (f3 : cs[p3]? = some a3 := by exact rfl) (f4 : cs[p4]? = some a4 := by exact rfl) (f5 : cs[p5]? = some a5 := by exact rfl) (f6 : cs[p6]? = some a6 := by exact rfl) (f7 : cs[p7]? = some a7 := by exact rfl) : E8 A g p0 p1 p2 p3 p4 p5 p6 p7 a0 a1 a2 a3 a4 a5 a6 a7 := ⟨h.cl i p0 e f0, h.cl i p1 e f1, h.cl i p2 e f2, h.cl i p3 e f3, h.cl i p4 e f4, h.cl i p5 e f5, h.cl i p6 e f6, h.cl i p7 e f7⟩
theorem Bus.c2 {w0 A : World} {sd : Nat} {L : List Res} (h : Bus w0 sd L A) (i : Nat) {g : Nat} {t : TypeId} {cs : Array Value} {a0 a1 : Value} (e : L[i]? = some (rbox g t cs) := by exact rfl) (f0 : cs[0]? = some a0 := by exact rfl) (f1 : cs[1]? = some a1 := by exact rfl) : C2 A g a0 a1 := ⟨h.cl i 0 e f0, h.cl i 1 e f1⟩
theorem Bus.c3 {w0 A : World} {sd : Nat} {L : List Res} (h : Bus w0 sd L A) (i : Nat) {g : Nat} {t : TypeId} {cs : Array Value} {a0 a1 a2 : Value} (e : L[i]? = some (rbox g t cs) := by exact rfl) (f0 : cs[0]? = some a0 := by exact rfl) (f1 : cs[1]? = some a1 := by exact rfl) (f2 : cs[2]? = some a2 := by exact rfl) : C3 A g a0 a1 a2 := ⟨h.cl i 0 e f0, h.cl i 1 e f1, h.cl i 2 e f2⟩
theorem Bus.c4 {w0 A : World} {sd : Nat} {L : List Res} (h : Bus w0 sd L A) (i : Nat) {g : Nat} {t : TypeId} {cs : Array Value} {a0 a1 a2 a3 : Value} (e : L[i]? = some (rbox g t cs) := by exact rfl) (f0 : cs[0]? = some a0 := by exact rfl) (f1 : cs[1]? = some a1 := by exact rfl) (f2 : cs[2]? = some a2 := by exact rfl) (f3 : cs[3]? = some a3 := by exact rfl) : C4 A g a0 a1 a2 a3 := ⟨h.cl i 0 e f0, h.cl i 1 e f1, h.cl i 2 e f2, h.cl i 3 e f3⟩
theorem Bus.c5 {w0 A : World} {sd : Nat} {L : List Res} (h : Bus w0 sd L A) (i : Nat) {g : Nat} {t : TypeId} {cs : Array Value} {a0 a1 a2 a3 a4 : Value} (e : L[i]? = some (rbox g t cs) := by exact rfl) (f0 : cs[0]? = some a0 := by exact rfl) (f1 : cs[1]? = some a1 := by exact rfl) (f2 : cs[2]? = some a2 := by exact rfl) (f3 : cs[3]? = some a3 := by exact rfl) (f4 : cs[4]? = some a4 := by exact rfl) : C5 A g a0 a1 a2 a3 a4 := ⟨h.cl i 0 e f0, h.cl i 1 e f1, h.cl i 2 e f2, h.cl i 3 e f3, h.cl i 4 e f4⟩
theorem Bus.c6 {w0 A : World} {sd : Nat} {L : List Res} (h : Bus w0 sd L A) (i : Nat) {g : Nat} {t : TypeId} {cs : Array Value} {a0 a1 a2 a3 a4 a5 : Value} (e : L[i]? = some (rbox g t cs) := by exact rfl) (f0 : cs[0]? = some a0 := by exact rfl) (f1 : cs[1]? = some a1 := by exact rfl) (f2 : cs[2]? = some a2 := by exact rfl) (f3 : cs[3]? = some a3 := by exact rfl) (f4 : cs[4]? = some a4 := by exact rfl) (f5 : cs[5]? = some a5 := by exact rfl) : C6 A g a0 a1 a2 a3 a4 a5 := ⟨h.cl i 0 e f0, h.cl i 1 e f1, h.cl i 2 e f2, h.cl i 3 e f3, h.cl i 4 e f4, h.cl i 5 e f5⟩
theorem Bus.c8 {w0 A : World} {sd : Nat} {L : List Res} (h : Bus w0 sd L A) (i : Nat) {g : Nat} {t : TypeId} {cs : Array Value} {a0 a1 a2 a3 a4 a5 a6 a7 : Value} (e : L[i]? = some (rbox g t cs) := by exact rfl) (f0 : cs[0]? = some a0 := by exact rfl) (f1 : cs[1]? = some a1 := by exact rfl) (f2 : cs[2]? = some a2 := by exact rfl) (f3 : cs[3]? = some a3 := by exact rfl) (f4 : cs[4]? = some a4 := by exact rfl) (f5 : cs[5]? = some a5 := by exact rfl) (f6 : cs[6]? = some a6 := by exact rfl) (f7 : cs[7]? = some a7 := by exact rfl) : C8 A g a0 a1 a2 a3 a4 a5 a6 a7 := ⟨h.cl i 0 e f0, h.cl i 1 e f1, h.cl i 2 e f2, h.cl i 3 e f3, h.cl i 4 e f4, h.cl i 5 e f5, h.cl i 6 e f6, h.cl i 7 e f7⟩
end Go.Proofs.Ytdgplekokdeafaa
