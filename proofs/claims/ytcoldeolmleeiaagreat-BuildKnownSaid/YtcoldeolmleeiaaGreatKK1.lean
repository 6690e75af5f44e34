/- Operations of a drawn region that come first: see Reg. -/
import Derived.Test.YtcoldeolmleeiaaGreatKReg
import Derived.Test.YtcoldeolmleeiaaGreatKBase
import Derived.Maps.AppendAt
import Derived.Deep.AppendLies
import Derived.Deep.Upon
import Derived.RangeFuncNested
import Derived.RangeFuncBound
import Derived.RangeFuncCalls
import Derived.RangeFuncLeaves
import Derived.Shelf.Abstract
import Derived.Shelf.RegionOpen
import Derived.OwnWalkIn
import Derived.TacticsInMore
import Derived.LoopNIn
import Derived.LoopIn
import Derived.Deep.RegionHeld3
import Derived.LoopN
import Derived.Lib.MinMax
import Derived.BigQuiet
import Derived.Deep.QuietTactic
import Derived.OrdersIn
set_option linter.unusedVariables false
set_option linter.unusedSimpArgs false
set_option linter.unnecessarySimpa false
namespace Go.Proofs.YtcoldeolmleeiaaGreat
open Go.RowKit
def Sl {α : Type} (enc : α -> List Value) (sz lo hi : Nat) (w : World) (v : Value) (l : List α) : Prop :=
 l.length <= maxLen /\ ∃ a c, v = .slice a l.length c ∧
  (l = [] ∨ ∃ b off, a = some ⟨b, off, none⟩ /\ lo <= b /\ b < hi /\ ∀ i x, l[i]? = some x -> ∀ j u, (enc x)[j]? = some u -> w.cell? ⟨b, off + i * sz + j, none⟩ = some u)
section
variable {α : Type} {enc : α -> List Value} {sz lo hi : Nat} {w w' : World} {v : Value} {l : List α}
theorem Sl.len (h : Sl enc sz lo hi w v l) : l.length <= maxLen := h.1
theorem Sl.keep (h : Sl enc sz lo hi w v l) (hk : ∀ b o, lo <= b -> b < hi -> ∀ u, w.cell? ⟨b, o, none⟩ = some u -> w'.cell? ⟨b, o, none⟩ = some u) : Sl enc sz lo hi w' v l := by
 obtain ⟨hm, a, c, hv, h⟩ := h
 refine ⟨hm, a, c, hv, ?_⟩
 rcases h with h | ⟨b, off, ha, h1, h2, h3⟩
 · exact .inl h
 · exact .inr ⟨b, off, ha, h1, h2, fun i x hi j u hj => hk b _ h1 h2 u (h3 i x hi j u hj)⟩
theorem Sl.gb {r : Option Nat} (h : Sl enc sz lo hi w v l) (hg : w.grownBy w' r) (hr : ∀ g, r = some g -> g < lo ∨ hi <= g) : Sl enc sz lo hi w' v l :=
 h.keep fun b o h1 h2 u hu => gbc hg (by
  intro e
  have := hr b e.symm
  omega) hu
theorem Sl.alloc (h : Sl enc sz lo hi w v l) (x : Obj) : Sl enc sz lo hi (w.alloc x) v l := h.keep fun b o _ _ u hu => alc x hu
theorem Sl.drew (h : Sl enc sz lo hi w v l) : Sl enc sz lo hi w.drew v l := h
theorem Sl.drewN (h : Sl enc sz lo hi w v l) (n : Nat) : Sl enc sz lo hi (w.drewN n) v l := h
theorem Sl.wide {lo' hi' : Nat} (h : Sl enc sz lo hi w v l) (h1 : lo' <= lo) (h2 : hi <= hi') : Sl enc sz lo' hi' w v l := by
 obtain ⟨hm, a, c, hv, h⟩ := h
 refine ⟨hm, a, c, hv, ?_⟩
 rcases h with h | ⟨b, off, ha, h3, h4, h5⟩
 · exact .inl h
 · exact .inr ⟨b, off, ha, by omega, by omega, h5⟩
theorem Sl.form (h : Sl enc sz lo hi w v l) (hne : 0 < l.length) : ∃ b off c, v = .slice (some ⟨b, off, none⟩) l.length c /\ lo <= b /\ b < hi ∧
  ∀ i (hi' : i < l.length) j u, (enc l[i])[j]? = some u -> w.cell? ⟨b, off + i * sz + j, none⟩ = some u := by
 obtain ⟨_, a, c, hv, h⟩ := h
 rcases h with rfl | ⟨b, off, rfl, h1, h2, h3⟩
 · simp at hne
 · exact ⟨b, off, c, hv, h1, h2, fun i hi' j u hj => h3 i l[i] (List.getElem?_eq_getElem hi') j u hj⟩
theorem Sl.nil_ (h : Sl enc sz lo hi w v l) (hne : l.length = 0) : ∃ a c, v = .slice a 0 c /\ l = [] := by
 obtain ⟨_, a, c, hv, _⟩ := h
 rw [hne] at hv
 exact ⟨a, c, hv, List.eq_nil_of_length_eq_zero hne⟩
theorem Sl.any (h : Sl enc sz lo hi w v l) : ∃ a c, v = .slice a l.length c := by
 obtain ⟨_, a, c, hv, _⟩ := h
 exact ⟨a, c, hv⟩
theorem Sl.of_nil (a : Option Addr) (c : Nat) : Sl enc sz lo hi w (.slice a 0 c) [] := ⟨Nat.zero_le _, a, c, rfl, .inl rfl⟩
end
def intEnc (z : Int) : List Value := [.int .i64 z]
abbrev Ints (lo hi : Nat) (w : World) (v : Value) (l : List Int) : Prop := Sl intEnc 1 lo hi w v l
theorem Ints.form' {lo hi : Nat} {w : World} {v : Value} {l : List Int} (h : Ints lo hi w v l) (hne : 0 < l.length) : ∃ b off c, v = .slice (some ⟨b, off, none⟩) l.length c /\ lo <= b /\ b < hi ∧
  ∀ i (hi' : i < l.length), w.cell? ⟨b, off + i, none⟩ = some (.int .i64 l[i]) := by
 obtain ⟨b, off, c, hv, h1, h2, h3⟩ := h.form hne
 refine ⟨b, off, c, hv, h1, h2, fun i hi' => ?_⟩
 have := h3 i hi' 0 _ rfl
 simpa using this
def gi (l : List Int) (i : Nat) : Int := l.getD i 0
theorem gi_get {l : List Int} {i : Nat} (h : i < l.length) : gi l i = l[i] := by simp [gi, h]
theorem Ints.at {lo hi : Nat} {w : World} {v : Value} {l : List Int} (h : Ints lo hi w v l) (hne : 0 < l.length) : ∃ b off c, v = .slice (some ⟨b, off, none⟩) l.length c /\ lo <= b /\ b < hi ∧
  ∀ i, i < l.length -> w.cell? ⟨b, off + i, none⟩ = some (.int .i64 (gi l i)) := by
 obtain ⟨b, off, c, hv, h1, h2, h3⟩ := Ints.form' h hne
 exact ⟨b, off, c, hv, h1, h2, fun i hi' => by rw [gi_get hi']; exact h3 i hi'⟩
structure Sp where
 lo : Int
 hi : Int
 deriving DecidableEq
def Sp.v (s : Sp) : Value := .agg #[.int .i64 s.lo, .int .i64 s.hi]
def spEnc (s : Sp) : List Value := [.int .i64 s.lo, .int .i64 s.hi]
abbrev Sps (lo hi : Nat) (w : World) (v : Value) (l : List Sp) : Prop := Sl spEnc 2 lo hi w v l
theorem Sps.form' {lo hi : Nat} {w : World} {v : Value} {l : List Sp} (h : Sps lo hi w v l) (hne : 0 < l.length) : ∃ b off c, v = .slice (some ⟨b, off, none⟩) l.length c /\ lo <= b /\ b < hi ∧
  ∀ i (hi' : i < l.length), w.cell? ⟨b, off + i * 2, none⟩ = some (.int .i64 l[i].lo) /\ w.cell? ⟨b, off + i * 2 + 1, none⟩ = some (.int .i64 l[i].hi) := by
 obtain ⟨b, off, c, hv, h1, h2, h3⟩ := h.form hne
 exact ⟨b, off, c, hv, h1, h2, fun i hi' => ⟨h3 i hi' 0 _ rfl, h3 i hi' 1 _ rfl⟩⟩
def Ret (v : Value) (w : World) (e : Ending) (w' : World) : Prop := e = .returned v /\ w.grownBy w' none
theorem Sl.of_own {α : Type} {enc : α -> List Value} {sz : Nat} {w : World} {v : Value} {l : List α} {base : Nat} {e : TypeId} (h : w.ownsRow base e sz v l.length (l.flatMap enc)) (hsz : ∀ x, (enc x).length = sz) :
  Sl enc sz base w.heap.size w v l := by
 have hlt := h.lt
 have hc := @World.ownsRow.cells
 obtain ⟨h0, h1⟩ := h
 rcases h1 with ⟨rfl, hn⟩ | ⟨g, cap, cur, rfl, hb, hh, hnc, hcm, hcs, htk⟩
 ·
  obtain rfl : l = [] := List.eq_nil_of_length_eq_zero hn
  exact Sl.of_nil _ _
 refine ⟨by omega, _, cap, rfl, .inr ⟨g, 0, rfl, hb, (hlt g rfl).2, fun i x hi j u hj => ?_⟩⟩
 have key : ∀ (l : List α) (i : Nat) (x : α), l[i]? = some x -> ∀ j u, (enc x)[j]? = some u -> (l.flatMap enc)[i * sz + j]? = some u := by
  intro l
  induction l with
  | nil => intro i x h; simp at h
  | cons y l ih =>
   intro i x hi j u hj
   have hjl : j < sz := by have := (List.getElem?_eq_some_iff.1 hj).1; rw [hsz] at this; exact this
   rw [List.flatMap_cons]
   cases i with
   | zero =>
    simp at hi
    subst hi
    rw [List.getElem?_append_left (by rw [hsz]; omega)]
    simpa using hj
   | succ i =>
    rw [List.getElem?_append_right (by rw [hsz, Nat.succ_mul]; omega), hsz]
    have : (i + 1) * sz + j - sz = i * sz + j := by rw [Nat.succ_mul]; omega
    rw [this]
    exact ih i x (by simpa using hi) j u hj
 have hk := key l i x hi j u hj
 rw [← htk] at hk
 have hk2 : cur.toList[i * sz + j]? = some u := by
  rw [List.getElem?_take] at hk
  split at hk
  · exact hk
  · cases hk
 rw [Nat.zero_add]
 simp only [World.cell?, hh]
 simpa using hk2
section
variable {w0 A B : World} {sb : Option Nat} {X : Nat -> Prop} {E : World -> Prop} {bx : List (Nat × TypeId × Array Value)}
end
theorem Ints.cell {lo hi : Nat} {w : World} {x ox n c : Nat} {l : List Int} (h : Ints lo hi w (.slice (some ⟨x, ox, none⟩) n c) l) {i : Nat} (hi' : i < l.length) : w.cell? ⟨x, ox + i, none⟩ = some (.int .i64 (gi l i)) := by
 obtain ⟨x', ox', c', ev, _, _, H⟩ := Ints.at h (by omega)
 injection ev with e1 _ e2
 injection e1 with e1
 injection e1 with e3 e4
 subst e3 e4
 exact H i hi'
structure ElemOk {α : Type} (P : Program) (t e : TypeId) (sz bytes : Nat) (enc : α -> List Value) : Prop where
 under : P.underlying t = some (.slice e)
 info : ∃ (i : TypeInfo) (z : Value), P.info? e = some i /\ i.zero = some z /\ i.size = sz /\ i.bytes = bytes /\ z.cells.size = sz
 pos : 0 < sz
 small : bytes <= 1024
 len : ∀ x, (enc x).length = sz
 one : ∀ x, ∀ u ∈ enc x, u.oneCell' = true
def Own {α : Type} (enc : α -> List Value) (e : TypeId) (sz base : Nat) (w : World) (v : Value) (l : List α) : Prop := w.ownsRow base e sz v l.length (l.flatMap enc)
section
variable {α : Type} {enc : α -> List Value} {e : TypeId} {sz base : Nat} {w w' : World} {v : Value} {l : List α}
theorem Own.nil (enc : α -> List Value) (e : TypeId) (sz base : Nat) (w : World) : Own enc e sz base w (.slice none 0 0) [] := World.ownsRow_nil w base e sz
theorem Own.sl (h : Own enc e sz base w v l) (hsz : ∀ x, (enc x).length = sz) : Sl enc sz base w.heap.size w v l := Sl.of_own h hsz
theorem Own.lt (h : Own enc e sz base w v l) : ∀ k, v.ownBlock = some k -> base <= k /\ k < w.heap.size := World.ownsRow.lt h
theorem Own.gb {r : Option Nat} (h : Own enc e sz base w v l) (hg : w.grownBy w' r) (hr : ∀ k, r = some k -> v.ownBlock ≠ some k) : Own enc e sz base w' v l := by
 refine World.ownsRow.kept h hg ?_
 cases hv : v.ownBlock with
 | none => exact .inl rfl
 | some k => exact .inr fun e => hr k e.symm hv
theorem Own.alloc (h : Own enc e sz base w v l) (o : Obj) : Own enc e sz base (w.alloc o) v l := World.ownsRow.alloc h o
theorem Own.drew (h : Own enc e sz base w v l) : Own enc e sz base w.drew v l := h
theorem Own.drewN (h : Own enc e sz base w v l) (n : Nat) : Own enc e sz base (w.drewN n) v l := h
theorem Own.form (h : Own enc e sz base w v l) (hl : 0 < l.length) : ∃ g cap, v = .slice (some ⟨g, 0, none⟩) l.length cap /\ base <= g /\ g < w.heap.size := World.ownsRow.form h hl
theorem Own.ne {g : Nat} {t : TypeId} {cs : Array Value} (h : Own enc e sz base w v l) (hg : Bk w g t cs) (hne : e ≠ t) : v.ownBlock ≠ some g := by
 rcases h.2 with ⟨rfl, _⟩ | ⟨g', cap, cur, rfl, _, hh, _⟩
 · simp [Value.ownBlock]
 intro he
 obtain rfl : g' = g := by simpa [Value.ownBlock] using he
 exact Bk.ne (t := e) hh hg hne rfl
end
theorem flat_len {α : Type} {enc : α -> List Value} {sz : Nat} (h : ∀ x, (enc x).length = sz) (l : List α) : (l.flatMap enc).length = l.length * sz := by
 induction l with
 | nil => simp
 | cons x l ih => rw [List.flatMap_cons, List.length_append, h, ih, List.length_cons, Nat.succ_mul]; omega
section
variable {α : Type} {P : Program} {t e : TypeId} {sz bytes : Nat} {enc : α -> List Value} (w : World)
theorem run_app (ok : ElemOk P t e sz bytes enc) (ty : TypeId) (base : Nat) (v : Value) (l ys : List α) (hown : Own enc e sz base w v l)
  (ad : Addr) (c : Nat) (hm : 0 < ys.length) (hnews : ∀ j u, (ys.flatMap enc)[j]? = some u -> w.cell? (ad.add j) = some u) (hbig : l.length + ys.length <= 100000000000) (hbase : base <= w.heap.size) :
  ∃ g cap w', (Builtin.append_ #[t, t] ty #[v, .slice (some ad) ys.length c]).run P w = .ok (.slice (some ⟨g, 0, none⟩) (l.length + ys.length) cap) w' ∧
   Own enc e sz base w' (.slice (some ⟨g, 0, none⟩) (l.length + ys.length) cap) (l ++ ys) /\ ((v.ownBlock = some g /\ w.grownBy w' (some g)) ∨ (g = w.heap.size /\ w.grownBy w' none)) /\ Own enc e sz base w' v l := by
 obtain ⟨i, z, hi, hz, hsz, hby, hzs⟩ := ok.info
 subst hsz
 subst hby
 have hl : (ys.flatMap enc).length = ys.length * i.size := flat_len ok.len ys
 have hl0 : (l.flatMap enc).length = l.length * i.size := flat_len ok.len l
 have hlen : (l.flatMap enc ++ ys.flatMap enc).length = (l.length + ys.length) * i.size := by rw [List.length_append, hl0, hl, Nat.add_mul]
 have h63 : l.length + ys.length <= maxLen := by simp only [maxLen]; omega
 have hbytes : (l.length + ys.length) * i.bytes <= 140737488355328 := Nat.le_trans (Nat.mul_le_mul hbig ok.small) (by omega)
 have happ : (l ++ ys).flatMap enc = l.flatMap enc ++ ys.flatMap enc := List.flatMap_append
 have hll : (l ++ ys).length = l.length + ys.length := List.length_append
 unfold Own
 rw [happ, hll]
 have grown : ∀ (old : Nat), old < l.length + ys.length →
   (w.drew.alloc (.cells ((l.flatMap enc).toArray ++ (ys.flatMap enc).toArray ++ Builtin.zeroCells z.cells (grownCap w (l.length + ys.length) old e - (l.length + ys.length))) e)).ownsRow base e i.size
    (.slice (some ⟨w.heap.size, 0, none⟩) (l.length + ys.length) (grownCap w (l.length + ys.length) old e)) (l.length + ys.length) (l.flatMap enc ++ ys.flatMap enc) ∧
   w.grownBy (w.drew.alloc (.cells ((l.flatMap enc).toArray ++ (ys.flatMap enc).toArray ++ Builtin.zeroCells z.cells (grownCap w (l.length + ys.length) old e - (l.length + ys.length))) e)) none := by
  intro old ho
  have hge := grownCap_ge w (l.length + ys.length) old e
  have hcm := grownCap_le_maxLen w (l.length + ys.length) old e h63
  refine ⟨⟨hlen, .inr ⟨w.heap.size, _, _, rfl, hbase, Bk.new w.drew e _, hge, hcm, ?_, ?_⟩⟩, gb_alloc (gb_drew (gb_refl _ _)) _⟩
  ·
   simp only [Array.size_append, List.size_toArray, size_zeroCells, hzs, hl0, hl, ← Nat.add_mul]
   congr 1
   omega
  simp only [Array.toList_append, List.append_assoc]
  rw [← List.append_assoc, ← hlen]
  exact List.take_left
 rcases hown.2 with ⟨rfl, h0⟩ | ⟨g, cap, cur, rfl, hbg, hg, hnc, hcm, hcs, htake⟩
 ·
  obtain rfl : l = [] := List.eq_nil_of_length_eq_zero h0
  have hr := run_append_nil (P := P) w t ty e i z ok.under hi hz ad ys.length c _ hl hnews (by omega) (by simp only [List.length_nil] at hbig; omega) (by simp only [List.length_nil, Nat.zero_add] at hbytes; omega)
  have hgr := grown 0 (by omega)
  simp only [List.length_nil, Nat.zero_add, List.flatMap_nil, List.nil_append, Array.empty_append] at hgr ⊢
  exact ⟨_, _, _, hr, hgr.1, .inr ⟨rfl, hgr.2⟩, World.ownsRow_nil _ _ _ _⟩
 by_cases hroom : l.length + ys.length <= cap
 ·
  have hfit : l.length * i.size + (ys.flatMap enc).length <= cur.size := by rw [hl, hcs, ← Nat.add_mul]; exact Nat.mul_le_mul_right _ hroom
  have h1 : ∀ u ∈ ys.flatMap enc, u.oneCell' = true := fun u hu => by
   obtain ⟨x, _, hx⟩ := List.mem_flatMap.1 hu
   exact ok.one x u hx
  have hr := run_append_room (P := P) w t ty e i ok.under hi g l.length cap cur hg ad ys.length c _ hl hnews h1 hroom hfit
  have hsize : (cur.toList.take (l.length * i.size) ++ ys.flatMap enc ++ cur.toList.drop (l.length * i.size + (ys.flatMap enc).length)).toArray.size = cap * i.size := by
   simp only [List.size_toArray, List.length_append, List.length_take, List.length_drop, Array.length_toList]
   omega
  refine ⟨_, _, _, hr, ⟨hlen, .inr ⟨g, cap, _, rfl, hbg, setRow_heap w g cur _ e _ hg, hroom, hcm, hsize, ?_⟩⟩, .inl ⟨rfl, ⟨rfl, rfl, rfl, by simp, fun k _ hk => setRow_other w g k _ (fun e => hk (by simp [e]))⟩⟩, ⟨hl0, .inr ⟨g, cap, _, rfl, hbg, setRow_heap w g cur _ e _ hg, hnc, hcm, hsize, ?_⟩⟩⟩
  ·
   rw [htake, ← hlen]
   exact List.take_left
  rw [htake, List.append_assoc, ← hl0]
  exact List.take_left
 have holds : ∀ j u, (l.flatMap enc)[j]? = some u -> w.cell? ((⟨g, 0, none⟩ : Addr).add j) = some u := World.ownsRow.cells hown (g := g) rfl
 have hr := run_append_grow (P := P) w t ty e i z ok.under hi hz ⟨g, 0, none⟩ l.length cap _ hl0 holds ad ys.length c _ hl hnews (by omega) (by omega) (growslice_fits (by omega) hbytes)
 have hgr := grown cap (by omega)
 exact ⟨_, _, _, hr, hgr.1, .inr ⟨rfl, hgr.2⟩, World.ownsRow.kept hown hgr.2 (.inr (by simp [Value.ownBlock]))⟩
structure AppPost (enc : α -> List Value) (e : TypeId) (sz base : Nat) (w : World) (v : Value) (l ys : List α) (H N g cap : Nat) (w' : World) : Prop where
 own : Own enc e sz base w' (.slice (some ⟨g, 0, none⟩) N cap) (l ++ ys)
 at_ : v.ownBlock = some g ∨ g = H
 gb : w.grownBy w' v.ownBlock
 old : Own enc e sz base w' v l
 lt : g < w'.heap.size
theorem wp_app (ok : ElemOk P t e sz bytes enc) {o : Oper} {a : Act} {K : Act -> World -> Prop} {Q : Exit -> Act -> World -> Prop} (s x : Operand)
  (ho : o.op = .call { callee := .builtin .append, args := #[s, x], argTypes := #[t, t] })
  (base : Nat) (v : Value) (l ys : List α) (hs : a.eval s = v) (hown : Own enc e sz base w v l)
  (ad : Addr) (m c : Nat) (hx : a.eval x = .slice (some ad) m c) (hmy : ys.length = m) (hm : 0 < m) (hnews : ∀ j u, (ys.flatMap enc)[j]? = some u -> w.cell? (ad.add j) = some u) (N : Nat) (hN : l.length + m = N) (hbig : N <= 100000000000) (hbase : base <= w.heap.size) (H : Nat) (hH : w.heap.size = H)
  (h : ∀ g cap w', AppPost enc e sz base w v l ys H N g cap w' -> K (a.put o.dst (.slice (some ⟨g, 0, none⟩) N cap)) w') : o.wp P a w K Q := by
 subst hmy hN
 obtain ⟨g, cap, w', hr, h2, h3, h4⟩ := run_app w ok o.type base v l ys hown ad c hm hnews hbig hbase
 unfold Oper.wp execOp
 simp only [ho, resolve, invoke, builtin, Sem.run_bind, Sem.run_pure, Result.andThen_ok, List.map_toArray, List.map_cons, List.map_nil, hs, hx, hr]
 refine h g cap w' ⟨h2, ?_, ?_, h4, (h2.lt g rfl).2⟩
 ·
  rcases h3 with ⟨h3, _⟩ | ⟨h3, _⟩
  · exact .inl h3
  · exact .inr (h3.trans hH)
 rcases h3 with ⟨h3, h5⟩ | ⟨_, h5⟩
 · rw [h3]; exact h5
 · exact gb_trans' (gb_refl _ _) h5 (fun _ e => by cases e)
theorem wpList_app (ok : ElemOk P t e sz bytes enc) {ops : Array Oper} {rest : List Oper} {o : Oper} {a : Act} {Q : Exit -> Act -> World -> Prop} (hgd : o.guard = none) (s x : Operand)
  (ho : o.op = .call { callee := .builtin .append, args := #[s, x], argTypes := #[t, t] })
  (base : Nat) (v : Value) (l ys : List α) (hs : a.eval s = v) (hown : Own enc e sz base w v l)
  (ad : Addr) (m c : Nat) (hx : a.eval x = .slice (some ad) m c) (hmy : ys.length = m) (hm : 0 < m) (hnews : ∀ j u, (ys.flatMap enc)[j]? = some u -> w.cell? (ad.add j) = some u) (N : Nat) (hN : l.length + m = N) (hbig : N <= 100000000000) (hbase : base <= w.heap.size) (H : Nat) (hH : w.heap.size = H)
  (h : ∀ g cap w', AppPost enc e sz base w v l ys H N g cap w' -> wpList P ops Q rest (a.put o.dst (.slice (some ⟨g, 0, none⟩) N cap)) w') : wpList P ops Q (o :: rest) a w :=
 wpList_plain hgd fun _ hK => wp_app w ok s x ho base v l ys hs hown ad m c hx hmy hm hnews N hN hbig hbase H hH fun g cap w' hp => hK _ _ (h g cap w' hp)
theorem step_app (ok : ElemOk P t e sz bytes enc) {ops : Array Oper} {o : Oper} {a : Act} {K : Act -> World -> Prop} {Q : Exit -> Act -> World -> Prop} {E : Prop} (hgd : o.guard = none) (s x : Operand)
  (ho : o.op = .call { callee := .builtin .append, args := #[s, x], argTypes := #[t, t] })
  (base : Nat) (v : Value) (l ys : List α) (hs : a.eval s = v) (hown : Own enc e sz base w v l)
  (ad : Addr) (m c : Nat) (hx : a.eval x = .slice (some ad) m c) (hmy : ys.length = m) (hm : 0 < m) (hnews : ∀ j u, (ys.flatMap enc)[j]? = some u -> w.cell? (ad.add j) = some u) (N : Nat) (hN : l.length + m = N) (hbig : N <= 100000000000) (hbase : base <= w.heap.size) (H : Nat) (hH : w.heap.size = H)
  (h : ∀ g cap w', AppPost enc e sz base w v l ys H N g cap w' -> K (a.put o.dst (.slice (some ⟨g, 0, none⟩) N cap)) w') :
  if Region.wanted o (yielded ops a.tmps) = true then Oper.wp P o a w K Q else E := by
 have hw : Region.wanted o (yielded ops a.tmps) = true := by simp [Region.wanted, hgd]
 rw [if_pos hw]
 exact wp_app w ok s x ho base v l ys hs hown ad m c hx hmy hm hnews N hN hbig hbase H hH h
end
theorem Own.at {e : TypeId} {base : Nat} {w : World} {g n cap : Nat} {l : List Int} (h : Own intEnc e 1 base w (.slice (some ⟨g, 0, none⟩) n cap) l) {i : Nat} (hi : i < l.length) : w.cell? ⟨g, i, none⟩ = some (.int .i64 (gi l i)) := by
 have hc := World.ownsRow.cells h (g := g) rfl
 have hfl : ∀ (l : List Int) (i : Nat), i < l.length -> (l.flatMap intEnc)[i]? = some (.int .i64 (gi l i)) := by
  intro l
  induction l with
  | nil => intro i h; simp at h
  | cons x l ih =>
   intro i h
   cases i with
   | zero => rfl
   | succ i =>
    have := ih i (by simpa using h)
    simpa [intEnc, gi] using this
 have := hc i _ (hfl l i hi)
 have hadd : (⟨g, 0, none⟩ : Addr).add i = ⟨g, i, none⟩ := by
  unfold Addr.add
  split <;> simp_all
 rwa [hadd] at this
theorem news_of {w : World} {g : Nat} {t : TypeId} {cs : Array Value} (h : Bk w g t cs) : ∀ j u, cs.toList[j]? = some u -> w.cell? ((⟨g, 0, none⟩ : Addr).add j) = some u := World.news_of_block h
theorem info5 {P : Program} {e : TypeId} {z : Value} {size bytes : Nat} (h : (P.info? e).map (fun i => (i.zero, i.size, i.bytes)) = some (some z, size, bytes)) (hz : z.cells.size = size) :
  ∃ (i : TypeInfo) (z : Value), P.info? e = some i /\ i.zero = some z /\ i.size = size /\ i.bytes = bytes /\ z.cells.size = size := by
 obtain ⟨i, h1, h2, h3, h4⟩ := info_parts h
 exact ⟨i, z, h1, h2, h3, h4, hz⟩
/-! ### the element types of this program -/
theorem infoInt : (Tryz.prog.info? 3).map (fun i => (i.zero, i.size, i.bytes)) = some (some (.int .i64 0), 1, 8) := by kernel_rfl
theorem okInt : ElemOk Tryz.prog 28 3 1 8 intEnc where
 under := Tryz.underlying28
 info := info5 infoInt rfl
 pos := by omega
 small := by omega
 len := fun _ => rfl
 one := fun x u hu => by simp [intEnc] at hu; subst hu; rfl
structure Res where
 mine : Bool
 X : Nat -> Prop
 P : World -> Prop
 st : ∀ (A B : World) (r : Option Nat), A.grownBy B r -> (∀ g, r = some g -> ¬ X g) -> P A -> P B
def rbox (g : Nat) (t : TypeId) (cs : Array Value) : Res := ⟨true, fun x => x = g, fun w => Bk w g t cs, fun _ _ _ hg hr h => Bk.gb h hg (fun e => hr g e.symm rfl)⟩
def rown {α : Type} (enc : α -> List Value) (e : TypeId) (sz base : Nat) (v : Value) (l : List α) : Res :=
 ⟨true, fun x => v.ownBlock = some x, fun w => Own enc e sz base w v l, fun _ _ _ hg hr h => Own.gb h hg (fun k e e' => hr k e e')⟩
def rsl {α : Type} (enc : α -> List Value) (sz lo hi : Nat) (v : Value) (l : List α) : Res :=
 ⟨false, fun x => lo <= x /\ x < hi, fun w => Sl enc sz lo hi w v l, fun _ _ _ hg hr h => Sl.gb h hg (fun g e => by have := hr g e; omega)⟩
def rext (lo hi : Nat) (E : World -> Prop) (hE : ∀ (A B : World) (r : Option Nat), A.grownBy B r -> (∀ g, r = some g -> ¬ (lo <= g /\ g < hi)) -> E A -> E B) : Res := ⟨false, fun x => lo <= x /\ x < hi, E, hE⟩
structure Bun (w0 : World) (L : List Res) (w : World) : Prop where
 all : ∀ r ∈ L, r.P w
 bd : ∀ r ∈ L, ∀ g, r.X g -> g < w.heap.size /\ (r.mine = true -> w0.heap.size <= g)
 dis : L.Pairwise fun a b => (a.mine = true ∨ b.mine = true) -> ∀ g, a.X g -> ¬ b.X g
 gb : w0.grownBy w none
section
variable {w0 A B : World} {L : List Res}
theorem Bun.nil (w : World) : Bun w [] w := ⟨fun _ h => (by cases h), fun _ h => (by cases h), .nil, gb_refl _ _⟩
theorem Bun.gn (h : Bun w0 L A) (hg : A.grownBy B none) : Bun w0 L B :=
 ⟨fun r hr => r.st A B none hg (fun _ e => by cases e) (h.all r hr), fun r hr g hx => ⟨Nat.lt_of_lt_of_le (h.bd r hr g hx).1 hg.size, (h.bd r hr g hx).2⟩, h.dis, gb_trans h.gb hg⟩
theorem Bun.drew (h : Bun w0 L A) : Bun w0 L A.drew := h.gn (gb_drew (gb_refl _ _))
theorem Bun.drewN (h : Bun w0 L A) (n : Nat) : Bun w0 L (A.drewN n) := h.gn (gb_drewN (gb_refl _ _) n)
theorem Bun.alloc (h : Bun w0 L A) (o : Obj) : Bun w0 L (A.alloc o) := h.gn (gb_alloc (gb_refl _ _) o)
theorem Bun.wr {r r' : Res} {q : Option Nat} (h : Bun w0 (r :: L) A) (hm : r.mine = true) (hg : A.grownBy B q) (hq : ∀ g, q = some g -> r.X g) (hP : r'.P B)
  (hX : ∀ g, r'.X g -> (r.X g ∨ A.heap.size <= g) /\ g < B.heap.size) : Bun w0 (r' :: L) B := by
 have hd := h.dis
 rw [List.pairwise_cons] at hd
 refine ⟨fun x hx => ?_, fun x hx g hxg => ?_, ?_, gb_trans' h.gb hg fun g e => .inr ((h.bd r (.head _) g (hq g e)).2 hm)⟩
 ·
  rcases List.mem_cons.1 hx with rfl | hx
  · exact hP
  · exact x.st A B q hg (fun g e => hd.1 x hx (.inl hm) g (hq g e)) (h.all x (.tail _ hx))
 ·
  rcases List.mem_cons.1 hx with rfl | hx
  ·
   refine ⟨(hX g hxg).2, fun _ => ?_⟩
   rcases (hX g hxg).1 with h1 | h1
   · exact (h.bd r (.head _) g h1).2 hm
   · exact Nat.le_trans h.gb.size h1
  · exact ⟨Nat.lt_of_lt_of_le (h.bd x (.tail _ hx) g hxg).1 hg.size, (h.bd x (.tail _ hx) g hxg).2⟩
 rw [List.pairwise_cons]
 refine ⟨fun x hx _ g hg1 hg2 => ?_, hd.2⟩
 rcases (hX g hg1).1 with h1 | h1
 · exact hd.1 x hx (.inl hm) g h1 hg2
 have := (h.bd x (.tail _ hx) g hg2).1
 omega
theorem Bun.add (r' : Res) (h : Bun w0 L A) (hg : A.grownBy B none) (hP : r'.P B) (hX : ∀ g, r'.X g -> A.heap.size <= g /\ g < B.heap.size) : Bun w0 (r' :: L) B := by
 have hB := h.gn hg
 refine ⟨fun x hx => ?_, fun x hx g hxg => ?_, ?_, hB.gb⟩
 ·
  rcases List.mem_cons.1 hx with rfl | hx
  · exact hP
  · exact hB.all x hx
 ·
  rcases List.mem_cons.1 hx with rfl | hx
  · exact ⟨(hX g hxg).2, fun _ => Nat.le_trans h.gb.size (hX g hxg).1⟩
  · exact hB.bd x hx g hxg
 rw [List.pairwise_cons]
 refine ⟨fun x hx _ g hg1 hg2 => ?_, h.dis⟩
 have := (h.bd x hx g hg2).1
 have := (hX g hg1).1
 omega
theorem Bun.perm {L' : List Res} (h : Bun w0 L A) (hp : L.Perm L') : Bun w0 L' A :=
 ⟨fun r hr => h.all r (hp.mem_iff.2 hr), fun r hr => h.bd r (hp.mem_iff.2 hr), (hp.pairwise_iff (fun h1 h2 g hg hg' => h1 h2.symm g hg' hg)).1 h.dis, h.gb⟩
theorem Bun.sub {L' : List Res} (h : Bun w0 L A) (hp : L'.Sublist L) : Bun w0 L' A := ⟨fun r hr => h.all r (hp.subset hr), fun r hr => h.bd r (hp.subset hr), h.dis.sublist hp, h.gb⟩
theorem perm_front {α : Type} : ∀ (l : List α) (i : Nat) (x : α), l[i]? = some x -> l.Perm (x :: l.eraseIdx i)
 | [], i, x, h => by simp at h
 | y :: l, 0, x, h => by simp at h; subst h; exact List.Perm.refl _
 | y :: l, i + 1, x, h => by
  have h1 := perm_front l i x (by simpa using h)
  exact (List.Perm.cons y h1).trans (List.Perm.swap x y _)
theorem Bun.front (i : Nat) {r : Res} {L' : List Res} (h : Bun w0 L A) (hr : L[i]? = some r) (hL : L.eraseIdx i = L') : Bun w0 (r :: L') A := hL ▸ h.perm (perm_front L i r hr)
theorem Bun.drop (i : Nat) {L' : List Res} (h : Bun w0 L A) (hL : L.eraseIdx i = L') : Bun w0 L' A := hL ▸ h.sub (List.eraseIdx_sublist _ _)
theorem Bun.at (i : Nat) {r : Res} (h : Bun w0 L A) (hr : L[i]? = some r) : r.P A := h.all r (List.mem_of_getElem? hr)
theorem Bun.ltAt (i : Nat) {r : Res} (h : Bun w0 L A) (hr : L[i]? = some r) (g : Nat) (hx : r.X g) : g < A.heap.size /\ (r.mine = true -> w0.heap.size <= g) := h.bd r (List.mem_of_getElem? hr) g hx
theorem Bun.neAt (i j : Nat) {r r' : Res} (h : Bun w0 L A) (hr : L[i]? = some r) (hr' : L[j]? = some r') (hij : i ≠ j) (hm : r.mine = true ∨ r'.mine = true) (g : Nat) (hx : r.X g) : ¬ r'.X g := by
 have key : ∀ (i j : Nat) (r r' : Res), L[i]? = some r -> L[j]? = some r' -> i < j -> (r.mine = true ∨ r'.mine = true) -> ∀ g, r.X g -> ¬ r'.X g := fun i j r r' hr hr' hlt hm => by
  have hi := List.getElem?_eq_some_iff.1 hr
  have hj := List.getElem?_eq_some_iff.1 hr'
  have := List.pairwise_iff_getElem.1 h.dis i j hi.1 hj.1 hlt
  rw [hi.2, hj.2] at this
  exact this hm
 rcases Nat.lt_or_gt_of_ne hij with h1 | h1
 · exact key i j r r' hr hr' h1 hm g hx
 · exact fun hx' => key j i r' r hr' hr h1 hm.symm g hx' hx
theorem Bun.pick (is : List Nat) {L' : List Res} (h : Bun w0 L A) (hn : is.Nodup) (hL : is.map (fun i => L[i]?) = L'.map some) : Bun w0 L' A := by
 have hlen : is.length = L'.length := by have := congrArg List.length hL; simpa using this
 have g : ∀ k (hk : k < L'.length), L[is[k]'(by omega)]? = some L'[k] := fun k hk => by
  have h1 : (is.map (fun i => L[i]?))[k]? = (L'.map some)[k]? := by rw [hL]
  rw [List.getElem?_map, List.getElem?_map, List.getElem?_eq_getElem (by omega : k < is.length), List.getElem?_eq_getElem hk] at h1
  simpa using h1
 have m : ∀ r ∈ L', ∃ i, L[i]? = some r := fun r hr => by
  obtain ⟨k, hk, rfl⟩ := List.getElem_of_mem hr
  exact ⟨_, g k hk⟩
 refine ⟨fun r hr => ?_, fun r hr => ?_, ?_, h.gb⟩
 ·
  obtain ⟨i, hi⟩ := m r hr
  exact h.all r (List.mem_of_getElem? hi)
 ·
  obtain ⟨i, hi⟩ := m r hr
  exact h.bd r (List.mem_of_getElem? hi)
 rw [List.pairwise_iff_getElem]
 intro i j hi hj hij hm gg hx
 have hne : is[i]'(by omega) ≠ is[j]'(by omega) := List.pairwise_iff_getElem.1 hn i j (by omega) (by omega) hij
 exact h.neAt _ _ (g i hi) (g j hj) hne hm gg hx
/-! the kinds -/
theorem Bun.new (h : Bun w0 L A) (t : TypeId) (cs : Array Value) {n : Nat} (hn : A.heap.size = n) : Bun w0 (rbox n t cs :: L) (A.alloc (.cells cs t)) := by
 subst hn
 refine h.add (rbox _ t cs) (gb_alloc (gb_refl _ _) _) (Bk.new A t cs) (fun g e => ?_)
 cases e
 simp
theorem Bun.set {g : Nat} {t : TypeId} {cs : Array Value} (h : Bun w0 (rbox g t cs :: L) A) (i : Nat) (u : Value) : Bun w0 (rbox g t (cs.setIfInBounds i u) :: L) (A.setCell ⟨g, i, none⟩ u) := by
 have hb : Bk A g t cs := h.all _ (.head _)
 refine h.wr rfl (gb_setCell (gb_refl A (some g)) (p := ⟨g, i, none⟩) (.inl rfl) u) (fun g' e => by cases e; rfl) (Bk.set hb i u) (fun g' e => ⟨.inl e, ?_⟩)
 cases e
 simpa [World.setCell] using hb.lt
theorem rsl_in {α : Type} {enc : α -> List Value} {sz lo hi a b : Nat} {v : Value} {l : List α} (h1 : a <= lo) (h2 : hi <= b) : ∀ g, (rsl enc sz lo hi v l).X g -> a <= g /\ g < b := fun g hx => by
 have := hx
 simp only [rsl] at this
 omega
theorem rext_in {lo hi a b : Nat} {E : World -> Prop} {hE} (h1 : a <= lo) (h2 : hi <= b) : ∀ g, (rext lo hi E hE).X g -> a <= g /\ g < b := fun g hx => by
 have := hx
 simp only [rext] at this
 omega
theorem Bun.app {α : Type} {enc : α -> List Value} {e : TypeId} {sz base base' : Nat} {v : Value} {l ys : List α} {H N g cap : Nat} (h : Bun w0 (rown enc e sz base v l :: L) A) (hp : AppPost enc e sz base' A v l ys H N g cap B) (hH : A.heap.size <= H) :
  Bun w0 (rown enc e sz base' (.slice (some ⟨g, 0, none⟩) N cap) (l ++ ys) :: L) B :=
 h.wr rfl hp.gb (fun k e => e) hp.own fun k e => ⟨by
  have e' : g = k := by simpa [rown, Value.ownBlock] using e
  subst e'
  rcases hp.at_ with h1 | h1
  · exact .inl h1
  · exact .inr (by omega), by
  have e' : g = k := by simpa [rown, Value.ownBlock] using e
  subst e'
  exact hp.lt⟩
end
section
variable {α : Type} {enc : α -> List Value} {e : TypeId} {sz base : Nat}
theorem flat_set (hlen : ∀ x, (enc x).length = sz) : ∀ (l : List α) (i : Nat) (x y : α) (j : Nat) (u : Value), l[i]? = some x -> j < sz -> enc y = (enc x).set j u -> (l.flatMap enc).set (i * sz + j) u = (l.set i y).flatMap enc := by
 intro l
 induction l with
 | nil => intro i x y j u h; simp at h
 | cons z l ih =>
  intro i x y j u h hj hy
  cases i with
  | zero =>
   simp at h
   subst h
   rw [List.set_cons_zero, List.flatMap_cons, List.flatMap_cons, hy, Nat.zero_mul, Nat.zero_add, List.set_append_left _ _ (by rw [hlen]; exact hj)]
  | succ i =>
   rw [List.set_cons_succ, List.flatMap_cons, List.flatMap_cons, List.set_append_right _ _ (by rw [hlen, Nat.succ_mul]; omega), hlen]
   rw [show (i + 1) * sz + j - sz = i * sz + j by rw [Nat.succ_mul]; omega]
   rw [ih i x y j u (by simpa using h) hj hy]
theorem Own.set {w : World} {g n cap : Nat} {l : List α} (hlen : ∀ x, (enc x).length = sz) (h : Own enc e sz base w (.slice (some ⟨g, 0, none⟩) n cap) l) {i j : Nat} {x y : α} {u : Value} (hx : l[i]? = some x) (hj : j < sz) (hy : enc y = (enc x).set j u) :
  Own enc e sz base (w.setCell ⟨g, i * sz + j, none⟩ u) (.slice (some ⟨g, 0, none⟩) n cap) (l.set i y) := by
 obtain ⟨h0, h1⟩ := h
 have hil := (List.getElem?_eq_some_iff.1 hx).1
 rcases h1 with ⟨h1, _⟩ | ⟨g', cap', cur, hv, hb, hh, hnc, hcm, hcs, htk⟩
 · cases h1
 injection hv with e1 e2 e3
 injection e1 with e1
 injection e1 with e1
 subst e1 e2 e3
 refine ⟨?_, .inr ⟨g, cap, cur.setIfInBounds (i * sz + j) u, by simp, hb, ?_, by simpa using hnc, hcm, by simpa using hcs, ?_⟩⟩
 · rw [flat_len hlen]
 · simp [World.setCell, Array.getElem?_modify, hh]
 rw [List.length_set, ← flat_set hlen l i x y j u hx hj hy, ← htk]
 rw [Array.toList_setIfInBounds, List.take_set]
theorem Bun.setOwn {w0 w : World} {L : List Res} {g n cap : Nat} {l : List α} (hlen : ∀ x, (enc x).length = sz) (h : Bun w0 (rown enc e sz base (.slice (some ⟨g, 0, none⟩) n cap) l :: L) w) {i j : Nat} {x y : α} {u : Value} (hx : l[i]? = some x) (hj : j < sz) (hy : enc y = (enc x).set j u) {k : Nat} (hk : i * sz + j = k) :
  Bun w0 (rown enc e sz base (.slice (some ⟨g, 0, none⟩) n cap) (l.set i y) :: L) (w.setCell ⟨g, k, none⟩ u) := by
 subst hk
 have ho : Own enc e sz base w (.slice (some ⟨g, 0, none⟩) n cap) l := h.at 0 rfl
 have h2 := Own.set hlen ho hx hj hy
 refine h.wr rfl (gb_setCell (gb_refl w (some g)) (p := ⟨g, i * sz + j, none⟩) (.inl rfl) u) (fun g' e => by cases e; rfl) h2 fun k e => ?_
 exact ⟨.inl e, (h2.lt k e).2⟩
theorem Own.live {w : World} {g n cap : Nat} {l : List α} (h : Own enc e sz base w (.slice (some ⟨g, 0, none⟩) n cap) l) (o : Nat) : w.frozen? ⟨g, o, none⟩ = false := by
 obtain ⟨h0, h1⟩ := h
 rcases h1 with ⟨h1, _⟩ | ⟨g', cap', cur, hv, hb, hh, _⟩
 · cases h1
 injection hv with e1
 injection e1 with e1
 injection e1 with e1
 subst e1
 simp [World.frozen?, hh]
end
section
variable {α : Type} {P : Program} {t e : TypeId} {sz bytes : Nat} {enc : α -> List Value} (w : World)
theorem Own.empty (enc : α -> List Value) (e : TypeId) (sz base : Nat) {w : World} {g : Nat} (hg : Bk w g e #[]) (hb : base <= g) : Own enc e sz base w (.slice (some ⟨g, 0, none⟩) 0 0) [] :=
 ⟨by simp, .inr ⟨g, 0, #[], rfl, hb, hg, Nat.le_refl _, Nat.zero_le _, by simp, by simp⟩⟩
theorem run_copy (ok : ElemOk P t e sz bytes enc) (ty : TypeId) (base g : Nat) (hg : Bk w g e #[]) (lo hi : Nat) (v : Value) (l : List α) (hl : Sl enc sz lo hi w v l) (hbig : l.length <= 100000000000) (hb : base <= g) :
  ∃ v' w', (Builtin.append_ #[t, t] ty #[.slice (some ⟨g, 0, none⟩) 0 0, v]).run P w = .ok v' w' /\ Own enc e sz base w' v' l /\ w.grownBy w' (some g) := by
 have hgl := hg.lt
 by_cases h0 : l.length = 0
 ·
  obtain ⟨a, c, rfl, rfl⟩ := hl.nil_ h0
  obtain ⟨i, z, hi, hz, hsz, hby, hzs⟩ := ok.info
  refine ⟨.slice (some ⟨g, 0, none⟩) 0 0, w, ?_, Own.empty enc e sz base hg hb, gb_refl _ _⟩
  cases a <;> simp [Builtin.append_, run_underlying ok.under, sizeOf, typeInfo, hi, storeCells, loadCells, loadCellsFrom, Builtin.lenOf, Builtin.firstCells]
 obtain ⟨b, off, c, rfl, h1, h2, h3⟩ := hl.form (by omega)
 have hfl : ∀ (l : List α) (j : Nat) (u : Value), (l.flatMap enc)[j]? = some u -> ∃ i k x, l[i]? = some x /\ (enc x)[k]? = some u /\ j = i * sz + k := by
  intro l
  induction l with
  | nil => intro j u h; simp at h
  | cons x l ih =>
   intro j u h
   rw [List.flatMap_cons] at h
   by_cases hj : j < sz
   ·
    rw [List.getElem?_append_left (by rw [ok.len]; exact hj)] at h
    exact ⟨0, j, x, rfl, h, by omega⟩
   rw [List.getElem?_append_right (by rw [ok.len]; omega), ok.len] at h
   obtain ⟨i, k, y, h1, h2, h3⟩ := ih _ _ h
   exact ⟨i + 1, k, y, h1, h2, by rw [Nat.add_mul]; omega⟩
 obtain ⟨g', cap, w', hr, h4, h5, h6⟩ := run_app w ok ty base (.slice (some ⟨g, 0, none⟩) 0 0) [] l (Own.empty enc e sz base hg hb) ⟨b, off, none⟩ c (by omega) (fun j u hj => by
  obtain ⟨i, k, x, e1, e2, rfl⟩ := hfl l j u hj
  have hi := (List.getElem?_eq_some_iff.1 e1)
  obtain ⟨hi, rfl⟩ := hi
  have := h3 i hi k u e2
  have hadd : (⟨b, off, none⟩ : Addr).add (i * sz + k) = ⟨b, off + i * sz + k, none⟩ := by
   unfold Addr.add
   split <;> simp_all <;> omega
  rw [hadd]
  exact this) (by simpa using hbig) (by omega)
 refine ⟨_, w', hr, by simpa using h4, ?_⟩
 rcases h5 with ⟨h5, h7⟩ | ⟨h5, h7⟩
 ·
  simp [Value.ownBlock] at h5
  subst h5
  exact h7
 · exact gb_trans' (gb_refl _ _) h7 (fun _ e => by cases e)
end
section
variable {α : Type} {P : Program} {t e : TypeId} {sz bytes : Nat} {enc : α -> List Value}
theorem copy_block {w : World} {g base : Nat} {v' : Value} {l : List α} {w' : World} (ok : ElemOk P t e sz bytes enc) (ty : TypeId) (hg : Bk w g e #[]) (lo hi : Nat) (v : Value) (hl : Sl enc sz lo hi w v l) (hbig : l.length <= 100000000000) (hb : base <= g)
  (hr : (Builtin.append_ #[t, t] ty #[.slice (some ⟨g, 0, none⟩) 0 0, v]).run P w = .ok v' w') : ∀ k, v'.ownBlock = some k -> k = g ∨ w.heap.size <= k := by
 by_cases h0 : l.length = 0
 ·
  obtain ⟨a, c, rfl, rfl⟩ := hl.nil_ h0
  obtain ⟨i, z, hi, hz, hsz, hby, hzs⟩ := ok.info
  have : (Builtin.append_ #[t, t] ty #[.slice (some ⟨g, 0, none⟩) 0 0, .slice a 0 c]).run P w = .ok (.slice (some ⟨g, 0, none⟩) 0 0) w := by
   cases a <;> simp [Builtin.append_, run_underlying ok.under, sizeOf, typeInfo, hi, storeCells, loadCells, loadCellsFrom, Builtin.lenOf, Builtin.firstCells]
  rw [this] at hr
  injection hr with hr _
  subst hr
  intro k hk
  simp [Value.ownBlock] at hk
  exact .inl hk.symm
 obtain ⟨b, off, c, rfl, h1, h2, h3⟩ := hl.form (by omega)
 have hfl : ∀ (l : List α) (j : Nat) (u : Value), (l.flatMap enc)[j]? = some u -> ∃ i k x, l[i]? = some x /\ (enc x)[k]? = some u /\ j = i * sz + k := by
  intro l
  induction l with
  | nil => intro j u h; simp at h
  | cons x l ih =>
   intro j u h
   rw [List.flatMap_cons] at h
   by_cases hj : j < sz
   ·
    rw [List.getElem?_append_left (by rw [ok.len]; exact hj)] at h
    exact ⟨0, j, x, rfl, h, by omega⟩
   rw [List.getElem?_append_right (by rw [ok.len]; omega), ok.len] at h
   obtain ⟨i, k, y, h1, h2, h3⟩ := ih _ _ h
   exact ⟨i + 1, k, y, h1, h2, by rw [Nat.add_mul]; omega⟩
 obtain ⟨g', cap, w2, hr2, h4, h5, h6⟩ := run_app w ok ty base (.slice (some ⟨g, 0, none⟩) 0 0) [] l (Own.empty enc e sz base hg hb) ⟨b, off, none⟩ c (by omega) (fun j u hj => by
  obtain ⟨i, k, x, e1, e2, rfl⟩ := hfl l j u hj
  have hi := (List.getElem?_eq_some_iff.1 e1)
  obtain ⟨hi, rfl⟩ := hi
  have := h3 i hi k u e2
  have hadd : (⟨b, off, none⟩ : Addr).add (i * sz + k) = ⟨b, off + i * sz + k, none⟩ := by
   unfold Addr.add
   split <;> simp_all <;> omega
  rw [hadd]
  exact this) (by simpa using hbig) (by have := hg.lt; omega)
 rw [hr2] at hr
 injection hr with hr _
 subst hr
 intro k hk
 simp [Value.ownBlock] at hk
 subst hk
 rcases h5 with ⟨h5, _⟩ | ⟨h5, _⟩
 ·
  simp [Value.ownBlock] at h5
  exact .inl h5.symm
 · exact .inr (by omega)
end
structure Bus (w0 : World) (sd : Nat) (L : List Res) (w : World) : Prop where
 all : ∀ r ∈ L, r.P w
 bd : ∀ r ∈ L, ∀ g, r.X g -> g < w.heap.size /\ (r.mine = true -> w0.heap.size <= g ∨ g = sd)
 dis : L.Pairwise fun a b => (a.mine = true ∨ b.mine = true) -> ∀ g, a.X g -> ¬ b.X g
 gb : w0.grownBy w (some sd)
section
variable {w0 A B : World} {L : List Res} {sd : Nat}
theorem Bus.nil (w : World) : Bus w sd [] w := ⟨fun _ h => (by cases h), fun _ h => (by cases h), .nil, gb_refl _ _⟩
theorem Bus.gn (h : Bus w0 sd L A) (hg : A.grownBy B none) : Bus w0 sd L B :=
 ⟨fun r hr => r.st A B none hg (fun _ e => by cases e) (h.all r hr), fun r hr g hx => ⟨Nat.lt_of_lt_of_le (h.bd r hr g hx).1 hg.size, (h.bd r hr g hx).2⟩, h.dis, gb_none h.gb hg⟩
theorem Bus.drew (h : Bus w0 sd L A) : Bus w0 sd L A.drew := h.gn (gb_drew (gb_refl _ _))
theorem Bus.drewN (h : Bus w0 sd L A) (n : Nat) : Bus w0 sd L (A.drewN n) := h.gn (gb_drewN (gb_refl _ _) n)
theorem Bus.alloc (h : Bus w0 sd L A) (o : Obj) : Bus w0 sd L (A.alloc o) := h.gn (gb_alloc (gb_refl _ _) o)
theorem Bus.wr {r r' : Res} {q : Option Nat} (h : Bus w0 sd (r :: L) A) (hm : r.mine = true) (hg : A.grownBy B q) (hq : ∀ g, q = some g -> r.X g) (hP : r'.P B)
  (hX : ∀ g, r'.X g -> (r.X g ∨ A.heap.size <= g) /\ g < B.heap.size) : Bus w0 sd (r' :: L) B := by
 have hd := h.dis
 rw [List.pairwise_cons] at hd
 refine ⟨fun x hx => ?_, fun x hx g hxg => ?_, ?_, gb_trans' h.gb hg fun g e => ((h.bd r (.head _) g (hq g e)).2 hm).symm.imp (fun h => by rw [h]) id⟩
 ·
  rcases List.mem_cons.1 hx with rfl | hx
  · exact hP
  · exact x.st A B q hg (fun g e => hd.1 x hx (.inl hm) g (hq g e)) (h.all x (.tail _ hx))
 ·
  rcases List.mem_cons.1 hx with rfl | hx
  ·
   refine ⟨(hX g hxg).2, fun _ => ?_⟩
   rcases (hX g hxg).1 with h1 | h1
   · exact (h.bd r (.head _) g h1).2 hm
   · exact .inl (Nat.le_trans h.gb.size h1)
  · exact ⟨Nat.lt_of_lt_of_le (h.bd x (.tail _ hx) g hxg).1 hg.size, (h.bd x (.tail _ hx) g hxg).2⟩
 rw [List.pairwise_cons]
 refine ⟨fun x hx _ g hg1 hg2 => ?_, hd.2⟩
 rcases (hX g hg1).1 with h1 | h1
 · exact hd.1 x hx (.inl hm) g h1 hg2
 have := (h.bd x (.tail _ hx) g hg2).1
 omega
theorem Bus.add (r' : Res) (h : Bus w0 sd L A) (hg : A.grownBy B none) (hP : r'.P B) (hX : ∀ g, r'.X g -> A.heap.size <= g /\ g < B.heap.size) : Bus w0 sd (r' :: L) B := by
 have hB := h.gn hg
 refine ⟨fun x hx => ?_, fun x hx g hxg => ?_, ?_, hB.gb⟩
 ·
  rcases List.mem_cons.1 hx with rfl | hx
  · exact hP
  · exact hB.all x hx
 ·
  rcases List.mem_cons.1 hx with rfl | hx
  · exact ⟨(hX g hxg).2, fun _ => .inl (Nat.le_trans h.gb.size (hX g hxg).1)⟩
  · exact hB.bd x hx g hxg
 rw [List.pairwise_cons]
 refine ⟨fun x hx _ g hg1 hg2 => ?_, h.dis⟩
 have := (h.bd x hx g hg2).1
 have := (hX g hg1).1
 omega
theorem Bus.perm {L' : List Res} (h : Bus w0 sd L A) (hp : L.Perm L') : Bus w0 sd L' A :=
 ⟨fun r hr => h.all r (hp.mem_iff.2 hr), fun r hr => h.bd r (hp.mem_iff.2 hr), (hp.pairwise_iff (fun h1 h2 g hg hg' => h1 h2.symm g hg' hg)).1 h.dis, h.gb⟩
theorem Bus.sub {L' : List Res} (h : Bus w0 sd L A) (hp : L'.Sublist L) : Bus w0 sd L' A := ⟨fun r hr => h.all r (hp.subset hr), fun r hr => h.bd r (hp.subset hr), h.dis.sublist hp, h.gb⟩
theorem perm_front' {α : Type} : ∀ (l : List α) (i : Nat) (x : α), l[i]? = some x -> l.Perm (x :: l.eraseIdx i)
 | [], i, x, h => by simp at h
 | y :: l, 0, x, h => by simp at h; subst h; exact List.Perm.refl _
 | y :: l, i + 1, x, h => by
  have h1 := perm_front' l i x (by simpa using h)
  exact (List.Perm.cons y h1).trans (List.Perm.swap x y _)
theorem Bus.front (i : Nat) {r : Res} {L' : List Res} (h : Bus w0 sd L A) (hr : L[i]? = some r) (hL : L.eraseIdx i = L') : Bus w0 sd (r :: L') A := hL ▸ h.perm (perm_front' L i r hr)
theorem Bus.drop (i : Nat) {L' : List Res} (h : Bus w0 sd L A) (hL : L.eraseIdx i = L') : Bus w0 sd L' A := hL ▸ h.sub (List.eraseIdx_sublist _ _)
theorem Bus.at (i : Nat) {r : Res} (h : Bus w0 sd L A) (hr : L[i]? = some r) : r.P A := h.all r (List.mem_of_getElem? hr)
theorem Bus.ltAt (i : Nat) {r : Res} (h : Bus w0 sd L A) (hr : L[i]? = some r) (g : Nat) (hx : r.X g) : g < A.heap.size /\ (r.mine = true -> w0.heap.size <= g ∨ g = sd) := h.bd r (List.mem_of_getElem? hr) g hx
theorem Bus.neAt (i j : Nat) {r r' : Res} (h : Bus w0 sd L A) (hr : L[i]? = some r) (hr' : L[j]? = some r') (hij : i ≠ j) (hm : r.mine = true ∨ r'.mine = true) (g : Nat) (hx : r.X g) : ¬ r'.X g := by
 have key : ∀ (i j : Nat) (r r' : Res), L[i]? = some r -> L[j]? = some r' -> i < j -> (r.mine = true ∨ r'.mine = true) -> ∀ g, r.X g -> ¬ r'.X g := fun i j r r' hr hr' hlt hm => by
  have hi := List.getElem?_eq_some_iff.1 hr
  have hj := List.getElem?_eq_some_iff.1 hr'
  have := List.pairwise_iff_getElem.1 h.dis i j hi.1 hj.1 hlt
  rw [hi.2, hj.2] at this
  exact this hm
 rcases Nat.lt_or_gt_of_ne hij with h1 | h1
 · exact key i j r r' hr hr' h1 hm g hx
 · exact fun hx' => key j i r' r hr' hr h1 hm.symm g hx' hx
theorem Bus.pick (is : List Nat) {L' : List Res} (h : Bus w0 sd L A) (hn : is.Nodup) (hL : is.map (fun i => L[i]?) = L'.map some) : Bus w0 sd L' A := by
 have hlen : is.length = L'.length := by have := congrArg List.length hL; simpa using this
 have g : ∀ k (hk : k < L'.length), L[is[k]'(by omega)]? = some L'[k] := fun k hk => by
  have h1 : (is.map (fun i => L[i]?))[k]? = (L'.map some)[k]? := by rw [hL]
  rw [List.getElem?_map, List.getElem?_map, List.getElem?_eq_getElem (by omega : k < is.length), List.getElem?_eq_getElem hk] at h1
  simpa using h1
 have m : ∀ r ∈ L', ∃ i, L[i]? = some r := fun r hr => by
  obtain ⟨k, hk, rfl⟩ := List.getElem_of_mem hr
  exact ⟨_, g k hk⟩
 refine ⟨fun r hr => ?_, fun r hr => ?_, ?_, h.gb⟩
 ·
  obtain ⟨i, hi⟩ := m r hr
  exact h.all r (List.mem_of_getElem? hi)
 ·
  obtain ⟨i, hi⟩ := m r hr
  exact h.bd r (List.mem_of_getElem? hi)
 rw [List.pairwise_iff_getElem]
 intro i j hi hj hij hm gg hx
 have hne : is[i]'(by omega) ≠ is[j]'(by omega) := List.pairwise_iff_getElem.1 hn i j (by omega) (by omega) hij
 exact h.neAt _ _ (g i hi) (g j hj) hne hm gg hx
/-! the kinds -/
theorem Bus.new (h : Bus w0 sd L A) (t : TypeId) (cs : Array Value) {n : Nat} (hn : A.heap.size = n) : Bus w0 sd (rbox n t cs :: L) (A.alloc (.cells cs t)) := by
 subst hn
 refine h.add (rbox _ t cs) (gb_alloc (gb_refl _ _) _) (Bk.new A t cs) (fun g e => ?_)
 cases e
 simp
theorem Bus.set {g : Nat} {t : TypeId} {cs : Array Value} (h : Bus w0 sd (rbox g t cs :: L) A) (i : Nat) (u : Value) : Bus w0 sd (rbox g t (cs.setIfInBounds i u) :: L) (A.setCell ⟨g, i, none⟩ u) := by
 have hb : Bk A g t cs := h.all _ (.head _)
 refine h.wr rfl (gb_setCell (gb_refl A (some g)) (p := ⟨g, i, none⟩) (.inl rfl) u) (fun g' e => by cases e; rfl) (Bk.set hb i u) (fun g' e => ⟨.inl e, ?_⟩)
 cases e
 simpa [World.setCell] using hb.lt
theorem Bus.app {α : Type} {enc : α -> List Value} {e : TypeId} {sz base base' : Nat} {v : Value} {l ys : List α} {H N g cap : Nat} (h : Bus w0 sd (rown enc e sz base v l :: L) A) (hp : AppPost enc e sz base' A v l ys H N g cap B) (hH : A.heap.size <= H) :
  Bus w0 sd (rown enc e sz base' (.slice (some ⟨g, 0, none⟩) N cap) (l ++ ys) :: L) B :=
 h.wr rfl hp.gb (fun k e => e) hp.own fun k e => ⟨by
  have e' : g = k := by simpa [rown, Value.ownBlock] using e
  subst e'
  rcases hp.at_ with h1 | h1
  · exact .inl h1
  · exact .inr (by omega), by
  have e' : g = k := by simpa [rown, Value.ownBlock] using e
  subst e'
  exact hp.lt⟩
end
theorem Bus.setOwn {α : Type} {enc : α -> List Value} {e : TypeId} {sz base sd : Nat} {w0 w : World} {L : List Res} {g n cap : Nat} {l : List α} (hlen : ∀ x, (enc x).length = sz) (h : Bus w0 sd (rown enc e sz base (.slice (some ⟨g, 0, none⟩) n cap) l :: L) w) {i j : Nat} {x y : α} {u : Value} (hx : l[i]? = some x) (hj : j < sz) (hy : enc y = (enc x).set j u) {k : Nat} (hk : i * sz + j = k) :
  Bus w0 sd (rown enc e sz base (.slice (some ⟨g, 0, none⟩) n cap) (l.set i y) :: L) (w.setCell ⟨g, k, none⟩ u) := by
 subst hk
 have ho : Own enc e sz base w (.slice (some ⟨g, 0, none⟩) n cap) l := h.at 0 rfl
 have h2 := Own.set hlen ho hx hj hy
 refine h.wr rfl (gb_setCell (gb_refl w (some g)) (p := ⟨g, i * sz + j, none⟩) (.inl rfl) u) (fun g' e => by cases e; rfl) h2 fun k e => ?_
 exact ⟨.inl e, (h2.lt k e).2⟩
def OnlyS (sd : Nat) (L : List Res) : Prop := ∀ r ∈ L, r.mine = true -> ∀ g, r.X g -> g = sd
theorem Bus.sl0 {α : Type} {enc : α -> List Value} {sz lo hi sd : Nat} {v : Value} {l : List α} {w0 : World} {L : List Res} (h : Bus w0 sd L w0) (hs : Sl enc sz lo hi w0 v l) (h2 : hi <= w0.heap.size) (hx : ¬ (lo <= sd /\ sd < hi)) (hm : OnlyS sd L) : Bus w0 sd (rsl enc sz lo hi v l :: L) w0 := by
 refine ⟨fun r hr => ?_, fun r hr g hg => ?_, ?_, h.gb⟩
 ·
  rcases List.mem_cons.1 hr with rfl | hr
  · exact hs
  · exact h.all r hr
 ·
  rcases List.mem_cons.1 hr with rfl | hr
  · exact ⟨Nat.lt_of_lt_of_le hg.2 h2, fun e => by cases e⟩
  · exact h.bd r hr g hg
 rw [List.pairwise_cons]
 refine ⟨fun x hx' hmm g hg1 hg2 => ?_, h.dis⟩
 rcases hmm with hmm | hmm
 · cases hmm
 obtain rfl := hm x hx' hmm g hg2
 exact hx hg1
open Go.RowKit Go.Shelf
def Marks (B : Nat) (W : World) (ds : List Deferred) : Prop := ∃ Ds : List Nat, ds = Ds.map (fun D => { target := .collected D, args := #[] }) /\ Ds.Nodup /\ ∀ D ∈ Ds, B <= D /\ W.heap[D]? = some (.deferred (some []))
theorem Marks.nil (B : Nat) (W : World) : Marks B W [] := ⟨[], rfl, List.nodup_nil, fun _ h => by cases h⟩
theorem Marks.one {B D : Nat} {W : World} (hB : B <= D) (hK : W.heap[D]? = some (.deferred (some []))) : Marks B W [{ target := .collected D, args := #[] }] :=
 ⟨[D], rfl, by simp, fun x h => by obtain rfl := List.mem_singleton.1 h; exact ⟨hB, hK⟩⟩
theorem Marks.cons {B D : Nat} {A W : World} {ds : List Deferred} (h : Marks B A ds) (hg : A.grownBy W none) (hB : B <= D) (hD : A.heap.size <= D) (hK : W.heap[D]? = some (.deferred (some []))) : Marks B W ({ target := .collected D, args := #[] } :: ds) := by
 obtain ⟨Ds, rfl, h1, h2⟩ := h
 have hlt : ∀ x ∈ Ds, x < A.heap.size := fun x hx => (Array.getElem?_eq_some_iff.1 (h2 x hx).2).1
 refine ⟨D :: Ds, rfl, List.nodup_cons.2 ⟨fun hm => by have := hlt D hm; omega, h1⟩, fun x hx => ?_⟩
 rcases List.mem_cons.1 hx with rfl | hx
 · exact ⟨hB, hK⟩
 · exact ⟨(h2 x hx).1, (hg.block x (hlt x hx) (by simp)).trans (h2 x hx).2⟩
theorem Marks.keep {B : Nat} {A W : World} {ds : List Deferred} (h : Marks B A ds) (hk : ∀ D : Nat, A.heap[D]? = some (.deferred (some [])) -> W.heap[D]? = some (.deferred (some []))) : Marks B W ds := by
 obtain ⟨Ds, rfl, h1, h2⟩ := h
 exact ⟨Ds, rfl, h1, fun x hx => ⟨(h2 x hx).1, hk x (h2 x hx).2⟩⟩
theorem Marks.set {B : Nat} {A : World} {ds : List Deferred} {g : Nat} {t : TypeId} {cs : Array Value} (h : Marks B A ds) (hg : Bk A g t cs) (i : Nat) (u : Value) : Marks B (A.setCell ⟨g, i, none⟩ u) ds :=
 h.keep fun D hD => (Below.heap_setCell A ⟨g, i, none⟩ u D (fun e => by
  have e' : D = g := e
  subst e'
  unfold Bk at hg
  rw [hg] at hD
  cases hD)).trans hD
theorem Marks.alloc {B : Nat} {A : World} {ds : List Deferred} (h : Marks B A ds) (o : Obj) : Marks B (A.alloc o) ds :=
 h.keep fun D hD => (Below.heap_alloc A o D (Array.getElem?_eq_some_iff.1 hD).1).trans hD
theorem Marks.own {α : Type} {enc : α -> List Value} {e : TypeId} {sz base : Nat} {B : Nat} {A W : World} {ds : List Deferred} {v : Value} {l : List α} (h : Marks B A ds) (ho : Own enc e sz base A v l) (hg : A.grownBy W v.ownBlock) : Marks B W ds :=
 h.keep fun D hD => (hg.block D (Array.getElem?_eq_some_iff.1 hD).1 (fun e => by
  rcases ho.2 with ⟨rfl, _⟩ | ⟨g, cap, cur, rfl, _, hh, _⟩
  · cases e
  injection e with e
  subst e
  rw [hh] at hD
  cases hD)).trans hD
theorem Own.base {α : Type} {enc : α -> List Value} {e : TypeId} {sz base base' : Nat} {w : World} {v : Value} {l : List α} (h : Own enc e sz base w v l) (hb : base' <= base) : Own enc e sz base' w v l := by
 obtain ⟨h1, h2⟩ := h
 refine ⟨h1, ?_⟩
 rcases h2 with h2 | ⟨g, cap, cur, hv, hbg, hg, h3⟩
 · exact .inl h2
 · exact .inr ⟨g, cap, cur, hv, by omega, hg, h3⟩
theorem Bk.newAt (w : World) (t : TypeId) (cs : Array Value) {n : Nat} (h : w.heap.size = n) : Bk (w.alloc (.cells cs t)) n t cs := h ▸ Bk.new w t cs
structure Shut (B : Nat) (w w' : World) : Prop where
 os : w'.os = w.os
 tape : w'.tape = w.tape
 output : w'.output = w.output
 size : w'.heap.size = w.heap.size
 block : ∀ g, w.heap[g]? ≠ some (.deferred (some [])) ∨ g < B -> w'.heap[g]? = w.heap[g]?
theorem Shut.bk {B : Nat} {w w' : World} (h : Shut B w w') {g : Nat} {t : TypeId} {cs : Array Value} (hg : Bk w g t cs) : Bk w' g t cs :=
 (h.block g (.inl (by unfold Bk at hg; rw [hg]; simp))).trans hg
theorem Shut.gb {B : Nat} {a w w' : World} (h : Shut B w w') {r : Option Nat} (hg : a.grownBy w r) (hB : a.heap.size <= B) : a.grownBy w' r :=
 ⟨h.os.trans hg.os, h.tape.trans hg.tape, h.output.trans hg.output, by rw [h.size]; exact hg.size, fun i hi hne => (h.block i (.inr (by omega))).trans (hg.block i hi hne)⟩
theorem Shut.own {α : Type} {enc : α -> List Value} {e : TypeId} {sz base B : Nat} {w w' : World} {v : Value} {l : List α} (hs : Shut B w w') (h : Own enc e sz base w v l) : Own enc e sz base w' v l := by
 obtain ⟨h1, h2⟩ := h
 refine ⟨h1, ?_⟩
 rcases h2 with h2 | ⟨g, cap, cur, hv, hb, hg, h3⟩
 · exact .inl h2
 · exact .inr ⟨g, cap, cur, hv, hb, (hs.block g (.inl (by rw [hg]; simp))).trans hg, h3⟩
theorem leave_marks {P : Program} {fn : Func} {R : Ending -> World -> Prop} {tmps : Array Value} {B : Nat} {w : World} {ds : List Deferred} (hm : Marks B w ds) (v : Value)
  (h : ∀ w', Shut B w w' -> (results fn tmps).run P w' = .ok v w' /\ R (.returned v) w') :
  bodyPostM Fence.wide 0 P fn R .ret { tmps := tmps, defers := ds } w := by
 obtain ⟨Ds, rfl, h1, h2⟩ := hm
 show LeavesInM Fence.wide 0 P fn tmps R _ .returning w
 have key : ∀ (Ds : List Nat) (u : World), Ds.Nodup -> (∀ D ∈ Ds, B <= D /\ u.heap[D]? = some (.deferred (some []))) -> Shut B w u →
   LeavesInM Fence.wide 0 P fn tmps R (Ds.map (fun D => { target := .collected D, args := #[] })) .returning u := by
  intro Ds
  induction Ds with
  | nil => exact fun u _ _ hs => ⟨v, (h u hs).1, (h u hs).2⟩
  | cons D Ds ih =>
   intro u hn hD hs
   obtain ⟨hn1, hn2⟩ := List.nodup_cons.1 hn
   obtain ⟨hB, hK⟩ := hD D (by simp)
   refine ⟨by simp, .inl ⟨D, u.putObj D (.deferred none), rfl, run_takeDeferred hK, ih _ hn2 (fun x hx => ?_) ?_⟩⟩
   ·
    have hne : x ≠ D := fun e => hn1 (e ▸ hx)
    exact ⟨(hD x (by simp [hx])).1, (World.putObj_heap_other hne).trans (hD x (by simp [hx])).2⟩
   refine ⟨hs.os, hs.tape, hs.output, ?_, fun g hg => ?_⟩
   · rw [← hs.size]; simp [World.putObj]
   have hu := hs.block g hg
   by_cases e : g = D
   ·
    subst e
    rcases hg with hg | hg
    · rw [hu] at hK; exact absurd hK hg
    · omega
   · exact (World.putObj_heap_other e).trans hu
 exact key Ds w h1 h2 ⟨rfl, rfl, rfl, rfl, fun _ _ => rfl⟩
def slot (T : Array Value) (i : Nat) : Value := T.getD i undef
theorem wp_loopS {P : Program} {c : Code} {Q : Exit -> Act -> World -> Prop} {a : Act} {w : World} (n : Nat) (hn : a.tmps.size = n) (I : (Nat -> Value) -> List Deferred -> World -> Prop) (μ : (Nat -> Value) -> World -> Nat)
  (h0 : I (slot a.tmps) a.defers w)
  (round : ∀ t ds wr, I t ds wr -> c.wp P (Exit.then (fun a' w' => a'.tmps.size = n /\ I (slot a'.tmps) a'.defers w' /\ μ (slot a'.tmps) w' < μ t wr) Q) { tmps := ((List.range n).map t).toArray, defers := ds } wr) :
  (Code.loop c).wp P Q a w := by
 refine wp_loop (fun a' wr => a'.tmps.size = n /\ I (slot a'.tmps) a'.defers wr) (fun a' wr => μ (slot a'.tmps) wr) ⟨hn, h0⟩ ?_
 rintro ⟨T, ds⟩ wr ⟨hT, hI⟩
 simp only at hT
 have e : T = ((List.range n).map (slot T)).toArray := by
  refine Array.ext (by simp [hT]) fun i h1 h2 => ?_
  simp [slot, h1]
 have hr := round (slot T) ds wr hI
 rw [← e] at hr
 refine wp_mono hr fun e a' w' h => ?_
 cases e <;> first | exact ⟨⟨h.1, h.2.1⟩, h.2.2⟩ | exact h
theorem wp_cutK {P : Program} {c : Code} {K : Act -> World -> Prop} {Q : Exit -> Act -> World -> Prop} {a : Act} {w : World} (n : Nat) (R : (Nat -> Value) -> World -> Prop)
  (first : c.wp P (Exit.then (fun a' w' => a'.tmps.size = n /\ a'.defers = [] /\ R (slot a'.tmps) w') Q) a w)
  (rest : ∀ t w', R t w' -> K { tmps := ((List.range n).map t).toArray, defers := [] } w') : c.wp P (Exit.then K Q) a w := by
 refine wp_mono first fun e a' w' h => ?_
 cases e with
 | normal =>
  obtain ⟨T, ds⟩ := a'
  obtain ⟨h1, h2, h3⟩ := h
  simp only at h1 h2
  subst h2
  have e : T = ((List.range n).map (slot T)).toArray := by
   refine Array.ext (by simp [h1]) fun i h1 h2 => ?_
   simp [slot, h1]
  have hr := rest (slot T) w' h3
  rw [← e] at hr
  exact hr
 | _ => exact h
theorem beq_t {a b : Int} (h : a = b) : (a == b) = true := by rw [beq_iff_eq]; exact h
theorem beq_f {a b : Int} (h : ¬ a = b) : (a == b) = false := by rw [beq_eq_false_iff_ne]; exact h
theorem bne_f {a b : Int} (h : a = b) : (a != b) = false := by rw [bne, beq_t h]; rfl
theorem bne_t {a b : Int} (h : ¬ a = b) : (a != b) = true := by rw [bne, beq_f h]; rfl
theorem dec_f {p : Prop} [Decidable p] (h : ¬ p) : decide p = false := decide_eq_false h
theorem Sl.cells {α : Type} {enc : α -> List Value} {sz lo hi n c x ox : Nat} {w : World} {l : List α} (h : Sl enc sz lo hi w (.slice (some ⟨x, ox, none⟩) n c) l) {i : Nat} {z : α} (hz : l[i]? = some z) :
  ∀ j u, (enc z)[j]? = some u -> w.cell? ⟨x, ox + i * sz + j, none⟩ = some u := by
 have hi : i < l.length := (List.getElem?_eq_some_iff.1 hz).1
 obtain ⟨x', ox', c', ev, _, _, H⟩ := h.form (by omega)
 injection ev with e1 _ e2
 injection e1 with e1
 injection e1 with e3 e4
 subst e3 e4
 have := H i hi
 rw [(List.getElem?_eq_some_iff.1 hz).2] at this
 exact this
theorem Sl.addr {α : Type} {enc : α -> List Value} {sz lo hi n c : Nat} {a : Option Addr} {w : World} {l : List α} (h : Sl enc sz lo hi w (.slice a n c) l) (h0 : 0 < l.length) : ∃ x ox, a = some ⟨x, ox, none⟩ := by
 obtain ⟨x, ox, c', ev, _⟩ := h.form h0
 injection ev with e1 _ _
 exact ⟨x, ox, e1⟩
theorem Bun.name {w0 A : World} {L : List Res} (h : Bun w0 L A) : ∃ x, A = x /\ Bun w0 L x /\ A.heap.size <= x.heap.size := ⟨A, rfl, h, Nat.le_refl _⟩
theorem Bus.name {w0 A : World} {sd : Nat} {L : List Res} (h : Bus w0 sd L A) : ∃ x, A = x /\ Bus w0 sd L x /\ A.heap.size <= x.heap.size := ⟨A, rfl, h, Nat.le_refl _⟩
theorem drop_cons {α : Type} {l : List α} {k : Nat} {z : α} (h : l[k]? = some z) : l.drop k = z :: l.drop (k + 1) := by
 obtain ⟨h1, rfl⟩ := List.getElem?_eq_some_iff.1 h
 exact List.drop_eq_getElem_cons h1
theorem Bun.sl0 {α : Type} {enc : α -> List Value} {sz lo hi : Nat} {v : Value} {l : List α} {w0 : World} {L : List Res} (h : Bun w0 L w0) (hs : Sl enc sz lo hi w0 v l) (h2 : hi <= w0.heap.size) (hm : L.all (fun r => !r.mine) = true) : Bun w0 (rsl enc sz lo hi v l :: L) w0 := by
 have hm' : ∀ r ∈ L, r.mine = false := fun r hr => by have := List.all_eq_true.1 hm r hr; simpa using this
 refine ⟨fun r hr => ?_, fun r hr g hx => ?_, ?_, h.gb⟩
 ·
  rcases List.mem_cons.1 hr with rfl | hr
  · exact hs
  · exact h.all r hr
 ·
  rcases List.mem_cons.1 hr with rfl | hr
  · exact ⟨Nat.lt_of_lt_of_le hx.2 h2, fun e => by cases e⟩
  · exact h.bd r hr g hx
 rw [List.pairwise_cons]
 exact ⟨(fun x hx hmm => by
  rw [hm' x hx] at hmm
  rcases hmm with h1 | h1 <;> cases h1), h.dis⟩
def prevC {α : Type} (l : List α) (k : Nat) : Option α := if k = 0 then none else l[k - 1]?
theorem prevC_succ {α : Type} (l : List α) (k : Nat) : prevC l (k + 1) = l[k]? := by simp [prevC]
section
variable {w0 A : World} {L : List Res} {sd : Nat}
theorem Bun.cl (h : Bun w0 L A) (i j : Nat) {g : Nat} {t : TypeId} {cs : Array Value} {u : Value} (hi : L[i]? = some (rbox g t cs)) (hj : cs[j]? = some u) : A.cell? ⟨g, j, none⟩ = some u := (Bk.cell (h.at i hi) j).trans hj
theorem Bun.q (h : Bun w0 L A) (i j : Nat) {g : Nat} {t : TypeId} {cs : Array Value} {u : Value} (hi : L[i]? = some (rbox g t cs) := by exact rfl) (hj : cs[j]? = some u := by exact rfl) : A.cell? ⟨g, j, none⟩ = some u := (Bk.cell (h.at i hi) j).trans hj
theorem Bun.nf (cs' : Array Value) {g : Nat} {t : TypeId} {cs : Array Value} (h : Bun w0 (rbox g t cs :: L) A) (e : cs = cs') : Bun w0 (rbox g t cs' :: L) A := e ▸ h
theorem Bus.cl (h : Bus w0 sd L A) (i j : Nat) {g : Nat} {t : TypeId} {cs : Array Value} {u : Value} (hi : L[i]? = some (rbox g t cs)) (hj : cs[j]? = some u) : A.cell? ⟨g, j, none⟩ = some u := (Bk.cell (h.at i hi) j).trans hj
theorem Bus.q (h : Bus w0 sd L A) (i j : Nat) {g : Nat} {t : TypeId} {cs : Array Value} {u : Value} (hi : L[i]? = some (rbox g t cs) := by exact rfl) (hj : cs[j]? = some u := by exact rfl) : A.cell? ⟨g, j, none⟩ = some u := (Bk.cell (h.at i hi) j).trans hj
theorem Bus.nf (cs' : Array Value) {g : Nat} {t : TypeId} {cs : Array Value} (h : Bus w0 sd (rbox g t cs :: L) A) (e : cs = cs') : Bus w0 sd (rbox g t cs' :: L) A := e ▸ h
theorem Bk.bx1 {g : Nat} {t : TypeId} {a0 : Value} (b : Bk A g t #[a0]) : (A.cell? ⟨g, 0, none⟩ = some a0) /\ (A.frozen? ⟨g, 0, none⟩ = false) /\ g < A.heap.size := ⟨b.cell 0, b.frozen 0, b.lt⟩
theorem Bun.bx1 (h : Bun w0 L A) (i : Nat) {g : Nat} {t : TypeId} {a0 : Value} (hi : L[i]? = some (rbox g t #[a0])) : (A.cell? ⟨g, 0, none⟩ = some a0) /\ (A.frozen? ⟨g, 0, none⟩ = false) /\ g < A.heap.size := Bk.bx1 (h.at i hi)
theorem Bus.bx1 (h : Bus w0 sd L A) (i : Nat) {g : Nat} {t : TypeId} {a0 : Value} (hi : L[i]? = some (rbox g t #[a0])) : (A.cell? ⟨g, 0, none⟩ = some a0) /\ (A.frozen? ⟨g, 0, none⟩ = false) /\ g < A.heap.size := Bk.bx1 (h.at i hi)
theorem Bk.bx2 {g : Nat} {t : TypeId} {a0 a1 : Value} (b : Bk A g t #[a0, a1]) : (A.cell? ⟨g, 0, none⟩ = some a0 /\ A.cell? ⟨g, 1, none⟩ = some a1) /\ (A.frozen? ⟨g, 0, none⟩ = false /\ A.frozen? ⟨g, 1, none⟩ = false) /\ g < A.heap.size := ⟨⟨b.cell 0, b.cell 1⟩, ⟨b.frozen 0, b.frozen 1⟩, b.lt⟩
theorem Bun.bx2 (h : Bun w0 L A) (i : Nat) {g : Nat} {t : TypeId} {a0 a1 : Value} (hi : L[i]? = some (rbox g t #[a0, a1])) : (A.cell? ⟨g, 0, none⟩ = some a0 /\ A.cell? ⟨g, 1, none⟩ = some a1) /\ (A.frozen? ⟨g, 0, none⟩ = false /\ A.frozen? ⟨g, 1, none⟩ = false) /\ g < A.heap.size := Bk.bx2 (h.at i hi)
theorem Bus.bx2 (h : Bus w0 sd L A) (i : Nat) {g : Nat} {t : TypeId} {a0 a1 : Value} (hi : L[i]? = some (rbox g t #[a0, a1])) : (A.cell? ⟨g, 0, none⟩ = some a0 /\ A.cell? ⟨g, 1, none⟩ = some a1) /\ (A.frozen? ⟨g, 0, none⟩ = false /\ A.frozen? ⟨g, 1, none⟩ = false) /\ g < A.heap.size := Bk.bx2 (h.at i hi)
theorem Bk.bx3 {g : Nat} {t : TypeId} {a0 a1 a2 : Value} (b : Bk A g t #[a0, a1, a2]) : (A.cell? ⟨g, 0, none⟩ = some a0 /\ A.cell? ⟨g, 1, none⟩ = some a1 /\ A.cell? ⟨g, 2, none⟩ = some a2) /\ (A.frozen? ⟨g, 0, none⟩ = false /\ A.frozen? ⟨g, 1, none⟩ = false /\ A.frozen? ⟨g, 2, none⟩ = false) /\ g < A.heap.size := ⟨⟨b.cell 0, b.cell 1, b.cell 2⟩, ⟨b.frozen 0, b.frozen 1, b.frozen 2⟩, b.lt⟩
theorem Bun.bx3 (h : Bun w0 L A) (i : Nat) {g : Nat} {t : TypeId} {a0 a1 a2 : Value} (hi : L[i]? = some (rbox g t #[a0, a1, a2])) : (A.cell? ⟨g, 0, none⟩ = some a0 /\ A.cell? ⟨g, 1, none⟩ = some a1 /\ A.cell? ⟨g, 2, none⟩ = some a2) /\ (A.frozen? ⟨g, 0, none⟩ = false /\ A.frozen? ⟨g, 1, none⟩ = false /\ A.frozen? ⟨g, 2, none⟩ = false) /\ g < A.heap.size := Bk.bx3 (h.at i hi)
theorem Bus.bx3 (h : Bus w0 sd L A) (i : Nat) {g : Nat} {t : TypeId} {a0 a1 a2 : Value} (hi : L[i]? = some (rbox g t #[a0, a1, a2])) : (A.cell? ⟨g, 0, none⟩ = some a0 /\ A.cell? ⟨g, 1, none⟩ = some a1 /\ A.cell? ⟨g, 2, none⟩ = some a2) /\ (A.frozen? ⟨g, 0, none⟩ = false /\ A.frozen? ⟨g, 1, none⟩ = false /\ A.frozen? ⟨g, 2, none⟩ = false) /\ g < A.heap.size := Bk.bx3 (h.at i hi)
theorem Bk.bx5 {g : Nat} {t : TypeId} {a0 a1 a2 a3 a4 : Value} (b : Bk A g t #[a0, a1, a2, a3, a4]) : (A.cell? ⟨g, 0, none⟩ = some a0 /\ A.cell? ⟨g, 1, none⟩ = some a1 /\ A.cell? ⟨g, 2, none⟩ = some a2 /\ A.cell? ⟨g, 3, none⟩ = some a3 /\ A.cell? ⟨g, 4, none⟩ = some a4) /\ (A.frozen? ⟨g, 0, none⟩ = false /\ A.frozen? ⟨g, 1, none⟩ = false /\ A.frozen? ⟨g, 2, none⟩ = false /\ A.frozen? ⟨g, 3, none⟩ = false /\ A.frozen? ⟨g, 4, none⟩ = false) /\ g < A.heap.size := ⟨⟨b.cell 0, b.cell 1, b.cell 2, b.cell 3, b.cell 4⟩, ⟨b.frozen 0, b.frozen 1, b.frozen 2, b.frozen 3, b.frozen 4⟩, b.lt⟩
theorem Bun.bx5 (h : Bun w0 L A) (i : Nat) {g : Nat} {t : TypeId} {a0 a1 a2 a3 a4 : Value} (hi : L[i]? = some (rbox g t #[a0, a1, a2, a3, a4])) : (A.cell? ⟨g, 0, none⟩ = some a0 /\ A.cell? ⟨g, 1, none⟩ = some a1 /\ A.cell? ⟨g, 2, none⟩ = some a2 /\ A.cell? ⟨g, 3, none⟩ = some a3 /\ A.cell? ⟨g, 4, none⟩ = some a4) /\ (A.frozen? ⟨g, 0, none⟩ = false /\ A.frozen? ⟨g, 1, none⟩ = false /\ A.frozen? ⟨g, 2, none⟩ = false /\ A.frozen? ⟨g, 3, none⟩ = false /\ A.frozen? ⟨g, 4, none⟩ = false) /\ g < A.heap.size := Bk.bx5 (h.at i hi)
theorem Bus.bx5 (h : Bus w0 sd L A) (i : Nat) {g : Nat} {t : TypeId} {a0 a1 a2 a3 a4 : Value} (hi : L[i]? = some (rbox g t #[a0, a1, a2, a3, a4])) : (A.cell? ⟨g, 0, none⟩ = some a0 /\ A.cell? ⟨g, 1, none⟩ = some a1 /\ A.cell? ⟨g, 2, none⟩ = some a2 /\ A.cell? ⟨g, 3, none⟩ = some a3 /\ A.cell? ⟨g, 4, none⟩ = some a4) /\ (A.frozen? ⟨g, 0, none⟩ = false /\ A.frozen? ⟨g, 1, none⟩ = false /\ A.frozen? ⟨g, 2, none⟩ = false /\ A.frozen? ⟨g, 3, none⟩ = false /\ A.frozen? ⟨g, 4, none⟩ = false) /\ g < A.heap.size := Bk.bx5 (h.at i hi)
theorem Bk.bx6 {g : Nat} {t : TypeId} {a0 a1 a2 a3 a4 a5 : Value} (b : Bk A g t #[a0, a1, a2, a3, a4, a5]) : (A.cell? ⟨g, 0, none⟩ = some a0 /\ A.cell? ⟨g, 1, none⟩ = some a1 /\ A.cell? ⟨g, 2, none⟩ = some a2 /\ A.cell? ⟨g, 3, none⟩ = some a3 /\ A.cell? ⟨g, 4, none⟩ = some a4 /\ A.cell? ⟨g, 5, none⟩ = some a5) /\ (A.frozen? ⟨g, 0, none⟩ = false /\ A.frozen? ⟨g, 1, none⟩ = false /\ A.frozen? ⟨g, 2, none⟩ = false /\ A.frozen? ⟨g, 3, none⟩ = false /\ A.frozen? ⟨g, 4, none⟩ = false /\ A.frozen? ⟨g, 5, none⟩ = false) /\ g < A.heap.size := ⟨⟨b.cell 0, b.cell 1, b.cell 2, b.cell 3, b.cell 4, b.cell 5⟩, ⟨b.frozen 0, b.frozen 1, b.frozen 2, b.frozen 3, b.frozen 4, b.frozen 5⟩, b.lt⟩
theorem Bun.bx6 (h : Bun w0 L A) (i : Nat) {g : Nat} {t : TypeId} {a0 a1 a2 a3 a4 a5 : Value} (hi : L[i]? = some (rbox g t #[a0, a1, a2, a3, a4, a5])) : (A.cell? ⟨g, 0, none⟩ = some a0 /\ A.cell? ⟨g, 1, none⟩ = some a1 /\ A.cell? ⟨g, 2, none⟩ = some a2 /\ A.cell? ⟨g, 3, none⟩ = some a3 /\ A.cell? ⟨g, 4, none⟩ = some a4 /\ A.cell? ⟨g, 5, none⟩ = some a5) /\ (A.frozen? ⟨g, 0, none⟩ = false /\ A.frozen? ⟨g, 1, none⟩ = false /\ A.frozen? ⟨g, 2, none⟩ = false /\ A.frozen? ⟨g, 3, none⟩ = false /\ A.frozen? ⟨g, 4, none⟩ = false /\ A.frozen? ⟨g, 5, none⟩ = false) /\ g < A.heap.size := Bk.bx6 (h.at i hi)
theorem Bus.bx6 (h : Bus w0 sd L A) (i : Nat) {g : Nat} {t : TypeId} {a0 a1 a2 a3 a4 a5 : Value} (hi : L[i]? = some (rbox g t #[a0, a1, a2, a3, a4, a5])) : (A.cell? ⟨g, 0, none⟩ = some a0 /\ A.cell? ⟨g, 1, none⟩ = some a1 /\ A.cell? ⟨g, 2, none⟩ = some a2 /\ A.cell? ⟨g, 3, none⟩ = some a3 /\ A.cell? ⟨g, 4, none⟩ = some a4 /\ A.cell? ⟨g, 5, none⟩ = some a5) /\ (A.frozen? ⟨g, 0, none⟩ = false /\ A.frozen? ⟨g, 1, none⟩ = false /\ A.frozen? ⟨g, 2, none⟩ = false /\ A.frozen? ⟨g, 3, none⟩ = false /\ A.frozen? ⟨g, 4, none⟩ = false /\ A.frozen? ⟨g, 5, none⟩ = false) /\ g < A.heap.size := Bk.bx6 (h.at i hi)
theorem Bk.bx8 {g : Nat} {t : TypeId} {a0 a1 a2 a3 a4 a5 a6 a7 : Value} (b : Bk A g t #[a0, a1, a2, a3, a4, a5, a6, a7]) : (A.cell? ⟨g, 0, none⟩ = some a0 /\ A.cell? ⟨g, 1, none⟩ = some a1 /\ A.cell? ⟨g, 2, none⟩ = some a2 /\ A.cell? ⟨g, 3, none⟩ = some a3 /\ A.cell? ⟨g, 4, none⟩ = some a4 /\ A.cell? ⟨g, 5, none⟩ = some a5 /\ A.cell? ⟨g, 6, none⟩ = some a6 /\ A.cell? ⟨g, 7, none⟩ = some a7) /\ (A.frozen? ⟨g, 0, none⟩ = false /\ A.frozen? ⟨g, 1, none⟩ = false /\ A.frozen? ⟨g, 2, none⟩ = false /\ A.frozen? ⟨g, 3, none⟩ = false /\ A.frozen? ⟨g, 4, none⟩ = false /\ A.frozen? ⟨g, 5, none⟩ = false /\ A.frozen? ⟨g, 6, none⟩ = false /\ A.frozen? ⟨g, 7, none⟩ = false) /\ g < A.heap.size := ⟨⟨b.cell 0, b.cell 1, b.cell 2, b.cell 3, b.cell 4, b.cell 5, b.cell 6, b.cell 7⟩, ⟨b.frozen 0, b.frozen 1, b.frozen 2, b.frozen 3, b.frozen 4, b.frozen 5, b.frozen 6, b.frozen 7⟩, b.lt⟩
theorem Bun.bx8 (h : Bun w0 L A) (i : Nat) {g : Nat} {t : TypeId} {a0 a1 a2 a3 a4 a5 a6 a7 : Value} (hi : L[i]? = some (rbox g t #[a0, a1, a2, a3, a4, a5, a6, a7])) : (A.cell? ⟨g, 0, none⟩ = some a0 /\ A.cell? ⟨g, 1, none⟩ = some a1 /\ A.cell? ⟨g, 2, none⟩ = some a2 /\ A.cell? ⟨g, 3, none⟩ = some a3 /\ A.cell? ⟨g, 4, none⟩ = some a4 /\ A.cell? ⟨g, 5, none⟩ = some a5 /\ A.cell? ⟨g, 6, none⟩ = some a6 /\ A.cell? ⟨g, 7, none⟩ = some a7) /\ (A.frozen? ⟨g, 0, none⟩ = false /\ A.frozen? ⟨g, 1, none⟩ = false /\ A.frozen? ⟨g, 2, none⟩ = false /\ A.frozen? ⟨g, 3, none⟩ = false /\ A.frozen? ⟨g, 4, none⟩ = false /\ A.frozen? ⟨g, 5, none⟩ = false /\ A.frozen? ⟨g, 6, none⟩ = false /\ A.frozen? ⟨g, 7, none⟩ = false) /\ g < A.heap.size := Bk.bx8 (h.at i hi)
theorem Bus.bx8 (h : Bus w0 sd L A) (i : Nat) {g : Nat} {t : TypeId} {a0 a1 a2 a3 a4 a5 a6 a7 : Value} (hi : L[i]? = some (rbox g t #[a0, a1, a2, a3, a4, a5, a6, a7])) : (A.cell? ⟨g, 0, none⟩ = some a0 /\ A.cell? ⟨g, 1, none⟩ = some a1 /\ A.cell? ⟨g, 2, none⟩ = some a2 /\ A.cell? ⟨g, 3, none⟩ = some a3 /\ A.cell? ⟨g, 4, none⟩ = some a4 /\ A.cell? ⟨g, 5, none⟩ = some a5 /\ A.cell? ⟨g, 6, none⟩ = some a6 /\ A.cell? ⟨g, 7, none⟩ = some a7) /\ (A.frozen? ⟨g, 0, none⟩ = false /\ A.frozen? ⟨g, 1, none⟩ = false /\ A.frozen? ⟨g, 2, none⟩ = false /\ A.frozen? ⟨g, 3, none⟩ = false /\ A.frozen? ⟨g, 4, none⟩ = false /\ A.frozen? ⟨g, 5, none⟩ = false /\ A.frozen? ⟨g, 6, none⟩ = false /\ A.frozen? ⟨g, 7, none⟩ = false) /\ g < A.heap.size := Bk.bx8 (h.at i hi)
theorem Bun.pt2 {g : Nat} {t : TypeId} {a0 a1 : Value} (h : Bun w0 (rbox g t #[a0, a1] :: L) A) (u0 u1 : Value) : Bun w0 (rbox g t #[u0, u1] :: L) (World.setCell (World.setCell A ⟨g, 0, none⟩ u0) ⟨g, 1, none⟩ u1) := by
 simpa using ((h.set 0 u0).set 1 u1)
theorem Bus.pt2 {g : Nat} {t : TypeId} {a0 a1 : Value} (h : Bus w0 sd (rbox g t #[a0, a1] :: L) A) (u0 u1 : Value) : Bus w0 sd (rbox g t #[u0, u1] :: L) (World.setCell (World.setCell A ⟨g, 0, none⟩ u0) ⟨g, 1, none⟩ u1) := by
 simpa using ((h.set 0 u0).set 1 u1)
theorem Bun.pt5 {g : Nat} {t : TypeId} {a0 a1 a2 a3 a4 : Value} (h : Bun w0 (rbox g t #[a0, a1, a2, a3, a4] :: L) A) (u0 u1 u2 u3 u4 : Value) : Bun w0 (rbox g t #[u0, u1, u2, u3, u4] :: L) (World.setCell (World.setCell (World.setCell (World.setCell (World.setCell A ⟨g, 0, none⟩ u0) ⟨g, 1, none⟩ u1) ⟨g, 2, none⟩ u2) ⟨g, 3, none⟩ u3) ⟨g, 4, none⟩ u4) := by
 simpa using (((((h.set 0 u0).set 1 u1).set 2 u2).set 3 u3).set 4 u4)
theorem Bus.pt5 {g : Nat} {t : TypeId} {a0 a1 a2 a3 a4 : Value} (h : Bus w0 sd (rbox g t #[a0, a1, a2, a3, a4] :: L) A) (u0 u1 u2 u3 u4 : Value) : Bus w0 sd (rbox g t #[u0, u1, u2, u3, u4] :: L) (World.setCell (World.setCell (World.setCell (World.setCell (World.setCell A ⟨g, 0, none⟩ u0) ⟨g, 1, none⟩ u1) ⟨g, 2, none⟩ u2) ⟨g, 3, none⟩ u3) ⟨g, 4, none⟩ u4) := by
 simpa using (((((h.set 0 u0).set 1 u1).set 2 u2).set 3 u3).set 4 u4)
theorem Bun.pt8 {g : Nat} {t : TypeId} {a0 a1 a2 a3 a4 a5 a6 a7 : Value} (h : Bun w0 (rbox g t #[a0, a1, a2, a3, a4, a5, a6, a7] :: L) A) (u0 u1 u2 u3 u4 u5 u6 u7 : Value) : Bun w0 (rbox g t #[u0, u1, u2, u3, u4, u5, u6, u7] :: L) (World.setCell (World.setCell (World.setCell (World.setCell (World.setCell (World.setCell (World.setCell (World.setCell A ⟨g, 0, none⟩ u0) ⟨g, 1, none⟩ u1) ⟨g, 2, none⟩ u2) ⟨g, 3, none⟩ u3) ⟨g, 4, none⟩ u4) ⟨g, 5, none⟩ u5) ⟨g, 6, none⟩ u6) ⟨g, 7, none⟩ u7) := by
 simpa using ((((((((h.set 0 u0).set 1 u1).set 2 u2).set 3 u3).set 4 u4).set 5 u5).set 6 u6).set 7 u7)
theorem Bus.pt8 {g : Nat} {t : TypeId} {a0 a1 a2 a3 a4 a5 a6 a7 : Value} (h : Bus w0 sd (rbox g t #[a0, a1, a2, a3, a4, a5, a6, a7] :: L) A) (u0 u1 u2 u3 u4 u5 u6 u7 : Value) : Bus w0 sd (rbox g t #[u0, u1, u2, u3, u4, u5, u6, u7] :: L) (World.setCell (World.setCell (World.setCell (World.setCell (World.setCell (World.setCell (World.setCell (World.setCell A ⟨g, 0, none⟩ u0) ⟨g, 1, none⟩ u1) ⟨g, 2, none⟩ u2) ⟨g, 3, none⟩ u3) ⟨g, 4, none⟩ u4) ⟨g, 5, none⟩ u5) ⟨g, 6, none⟩ u6) ⟨g, 7, none⟩ u7) := by
 simpa using ((((((((h.set 0 u0).set 1 u1).set 2 u2).set 3 u3).set 4 u4).set 5 u5).set 6 u6).set 7 u7)
end
section
variable {P : Program} {ops : Array Oper} {Q : Exit -> Act -> World -> Prop} {l n : Nat}
theorem rowsIn_wide {row : String} {args : Array Value} {w : World} {R : Value -> World -> Prop} (h : Rows P row args w R) : RowsIn Fence.wide n P row args w R :=
 fun c cs _ => let ⟨v, w', r, s⟩ := h c cs; ⟨v, w', r, stepsIn_wide.2 s⟩
theorem operIn_of_wp {o : Oper} {a : Act} {w : World} {K : Act -> World -> Prop} (hnd : ∀ c, o.op ≠ .defer c) (h : o.wp P a w K Q) : o.wpIn (Fence.wide.inRound l) n P a w K Q := by
 refine ⟨fun _ _ => trivial, ?_⟩
 rw [Oper.semAt_eq _ _ _ hnd]
 unfold Oper.wp at h
 generalize (execOp a.eval o).run P w = r at *
 cases r with
 | ok x w' =>
  cases x with
  | value v => exact h
  | skip => exact h
  | defer d => exact h
  | enter f args => exact ⟨fun e => (by cases e), CallsIn.inRound l (callsIn_wide.2 h)⟩
  | row row args => exact ⟨fun e => (by cases e), rowsIn_wide h⟩
  | _ => exact h.elim
 | halt x w' =>
  cases x with
  | panic v => exact h
  | _ => exact h.elim
def noDefer (ops : Array Oper) : Bool := ops.all fun o => match o.op with | .defer _ => false | _ => true
theorem noDefer_at (h : noDefer ops = true) {i : Nat} {o : Oper} (ho : ops[i]? = some o) : ∀ c, o.op ≠ .defer c := by
 intro c e
 obtain ⟨hi, rfl⟩ := Array.getElem?_eq_some_iff.1 ho
 have := Array.all_eq_true.1 h i hi
 rw [e] at this
 cases this
theorem wpOpIn_of {i : Nat} {K K' : Act -> World -> Prop} {a : Act} {w : World} (hd : noDefer ops = true) (hQ : ¬ LetsOut Q) (hK : ∀ a w, K a w -> K' a w) (h : wpOp P ops Q i K a w) : wpOpIn (Fence.wide.inRound l) n P ops Q i K' a w := by
 unfold wpOp at h
 unfold wpOpIn
 cases ho : ops[i]? with
 | none => rw [ho] at h; exact hK _ _ h
 | some o =>
  rw [ho] at h
  simp only at h ⊢
  split at h
  ·
   rename_i hw
   rw [if_pos hw]
   rcases h with h | h
   · exact operIn_of_wp (noDefer_at hd ho) (Oper.wp_mono hK h)
   · exact absurd h.2 hQ
  rename_i hw
  rw [if_neg hw]
  exact ⟨fun _ _ => trivial, hK _ _ h⟩
theorem wpAnyIn_of (hd : noDefer ops = true) (hQ : ¬ LetsOut Q) (md : Region.Mode) : ∀ (fuel : Nat) (listed : Array Bool) (a : Act) (w : World), wpAny P md ops Q fuel listed a w -> wpAnyIn (Fence.wide.inRound l) n P md ops Q fuel listed a w
 | 0, _, _, _, h => h
 | fuel + 1, _, _, _, h => ⟨h.1, fun i hi => wpOpIn_of hd hQ (wpAnyIn_of hd hQ md fuel _) (h.2 i hi)⟩
theorem wpIn_draw {id : Nat} {a : Act} {w : World} (hm : P.follows .mixedOrders = true) (hd : noDefer ops = true) (hQ : ¬ LetsOut Q)
  (h : wpAny P .any ops Q ops.size (Array.replicate ops.size false) a { w with drawn := w.drawn + 1 }) : (Code.region id ops true).wpIn (Fence.wide.inRound l) n P Q a w :=
 wpIn_region_any hm (wpAnyIn_of hd hQ _ _ _ _ _ h)
end
def KeepR (lo hi : Nat) (A B : World) : Prop := hi <= B.heap.size /\ ∀ g, lo <= g -> g < hi -> B.heap[g]? = A.heap[g]?
theorem KeepR.mono {lo hi lo' hi' : Nat} {A B : World} (h : KeepR lo hi A B) (h1 : lo <= lo') (h2 : hi' <= hi) : KeepR lo' hi' A B := ⟨Nat.le_trans h2 h.1, fun g a b => h.2 g (by omega) (by omega)⟩
def rkeep (lo hi : Nat) (W0 : World) : Res :=
 ⟨true, fun x => lo <= x /\ x < hi, fun w => KeepR lo hi W0 w, fun A B _ hg hr h => ⟨Nat.le_trans h.1 hg.size, fun g a b => (hg.block g (Nat.lt_of_lt_of_le b h.1) (fun e => hr g e.symm ⟨a, b⟩)).trans (h.2 g a b)⟩⟩
section
variable {w0 A B : World} {L : List Res} {sd : Nat}
theorem Bun.rekeep {lo hi : Nat} {W0 : World} (h : Bun w0 (rkeep lo hi W0 :: L) A) {r : Option Nat} (hg : A.grownBy B r) (hr : ∀ g, r = some g -> lo <= g /\ g < hi) : Bun w0 (rkeep lo hi B :: L) B := by
 have hk : KeepR lo hi W0 A := h.all _ (.head _)
 refine h.wr rfl hg (fun g e => hr g e) ⟨Nat.le_trans hk.1 hg.size, fun _ _ _ => rfl⟩ fun g e => ⟨.inl e, ?_⟩
 have := e.2; have := hk.1; have := hg.size
 omega
theorem Bun.keep0 {lo hi : Nat} (h : Bun w0 L A) (hg : A.grownBy B none) (hlo : A.heap.size <= lo) (hhi : hi <= B.heap.size) : Bun w0 (rkeep lo hi B :: L) B :=
 h.add (rkeep lo hi B) hg ⟨hhi, fun _ _ _ => rfl⟩ fun g e => ⟨Nat.le_trans hlo e.1, Nat.lt_of_lt_of_le e.2 hhi⟩
theorem Bun.kept {lo hi : Nat} {W0 : World} (h : Bun w0 (rkeep lo hi W0 :: L) A) : KeepR lo hi W0 A := h.all _ (.head _)
theorem Bus.rekeep {lo hi : Nat} {W0 : World} (h : Bus w0 sd (rkeep lo hi W0 :: L) A) {r : Option Nat} (hg : A.grownBy B r) (hr : ∀ g, r = some g -> lo <= g /\ g < hi) : Bus w0 sd (rkeep lo hi B :: L) B := by
 have hk : KeepR lo hi W0 A := h.all _ (.head _)
 refine h.wr rfl hg (fun g e => hr g e) ⟨Nat.le_trans hk.1 hg.size, fun _ _ _ => rfl⟩ fun g e => ⟨.inl e, ?_⟩
 have := e.2; have := hk.1; have := hg.size
 omega
theorem Bus.keep0 {lo hi : Nat} (h : Bus w0 sd L A) (hg : A.grownBy B none) (hlo : A.heap.size <= lo) (hhi : hi <= B.heap.size) : Bus w0 sd (rkeep lo hi B :: L) B :=
 h.add (rkeep lo hi B) hg ⟨hhi, fun _ _ _ => rfl⟩ fun g e => ⟨Nat.le_trans hlo e.1, Nat.lt_of_lt_of_le e.2 hhi⟩
theorem Bus.kept {lo hi : Nat} {W0 : World} (h : Bus w0 sd (rkeep lo hi W0 :: L) A) : KeepR lo hi W0 A := h.all _ (.head _)
end
def SeqI (P : Program) (gf : Nat) (lb : Array Value) (N : Nat) (el : Nat -> Array Value) (Hold : World -> Prop) : Prop :=
 ∀ (l : Nat) (J Jx : Nat -> Nat -> World -> Prop) (W : World),
  (∀ hi i A B r, J hi i A -> A.grownBy B r -> (∀ g, r = some g -> W.heap.size <= g /\ g < hi) -> J hi i B) →
  (∀ hi i A B r, Jx hi i A -> A.grownBy B r -> (∀ g, r = some g -> W.heap.size <= g /\ g < hi) -> Jx hi i B) →
  (∀ hi i A, J hi i A -> Hold A /\ hi <= A.heap.size) →
  (∀ hi i A, J hi i A -> i < N -> W.heap.size <= hi -> YieldAt Fence.wide 0 P l (el i) A fun e B =>
   (e = .returned (.bool true) /\ J hi (i + 1) B /\ KeepR W.heap.size hi A B) ∨ (e = .returned (.bool false) /\ Jx hi (i + 1) B)) →
  (∀ hi B, W.grownBy B none -> B.heap.size = hi -> J hi 0 B) →
  Calls P gf (#[.func (.yield l) #[] #[]] ++ lb) W fun e B => (∃ v, e = .returned v) /\ ∃ hi, W.heap.size <= hi /\ (J hi N B ∨ ∃ i, i <= N /\ Jx hi i B)
def iPost (lo hi : Nat) (I : Nat -> Nat -> World -> Prop) (Ix : Code -> Nat -> Nat -> World -> Prop) (i : Nat) (W : World) : Exit -> Act -> World -> Prop
 | .normal, _, W' => KeepR lo hi W W' /\ I hi i W'
 | .ret, _, W' => KeepR lo hi W W' /\ Ix .ret hi i W'
 | .exit id, _, W' => KeepR lo hi W W' /\ Ix (.exit id) hi i W'
 | .goto t, _, W' => KeepR lo hi W W' /\ Ix (.goto t) hi i W'
 | .panic _, _, _ => False
 | .outgrown, _, _ => False
theorem wp_rangeI {P : Program} {g : Operand} {ps : Array Tmp} {assign body : Code} {Q : Exit -> Act -> World -> Prop} {a : Act} {w : World} {gf : Nat} {lb : Array Value} {N : Nat} {el : Nat -> Array Value} {Hold : World -> Prop}
  (hg : a.eval g = .func (.func gf) #[] lb) (eg : ∀ args w, (callFunc gf args).run P w = .ok (.enter gf args) w) (hps : ∀ i, (el i).size = ps.size) (hseq : SeqI P gf lb N el Hold)
  (I : Nat -> Nat -> World -> Prop) (Ix : Code -> Nat -> Nat -> World -> Prop)
  (hI : ∀ hi i A B r, I hi i A -> A.grownBy B r -> (∀ g, r = some g -> w.heap.size <= g /\ g < hi) -> I hi i B)
  (hIx : ∀ c hi i A B r, Ix c hi i A -> A.grownBy B r -> (∀ g, r = some g -> w.heap.size <= g /\ g < hi) -> Ix c hi i B)
  (hH : ∀ hi i A, I hi i A -> Hold A /\ hi <= A.heap.size)
  (h0 : ∀ hi B, w.grownBy B none -> B.heap.size = hi -> w.heap.size + 2 <= hi -> I hi 0 B)
  (hround : ∀ (l hi i : Nat) (W : World), I hi i W -> i < N -> w.heap.size + 2 <= hi -> hi <= W.heap.size →
   assign.wpIn (Fence.wide.inRound l) 0 P (Exit.then (fun a' W' => KeepR w.heap.size hi W W' /\ (∀ W2, W'.grownBy W2 (some (w.heap.size + 1)) -> body.wpIn (Fence.wide.inRound l) 0 P (iPost w.heap.size hi I Ix (i + 1) W2) a' W2)) (fun _ _ _ => False))
    { tmps := (ps.zip (el i)).foldl (fun t (p, v) => t.setIfInBounds p v) a.tmps, defers := [] } W)
  (hdone : ∀ hi W, w.heap.size + 2 <= hi -> I hi N W -> W.heap[w.heap.size]? = some (.deferred (some [])) -> Q .normal { a with defers := { target := .collected w.heap.size, args := #[] } :: a.defers } W)
  (hstop : ∀ c hi i W, w.heap.size + 2 <= hi -> i <= N -> Ix c hi i W -> W.heap[w.heap.size]? = some (.deferred (some [])) -> c.wp P Q { a with defers := { target := .collected w.heap.size, args := #[] } :: a.defers } W) :
  (Code.rangeFunc g ps assign body).wp P Q a w := by
 refine wpIn_wide (n := 0).1 (wpIn_rangeFunc ?_)
 intro fn hfn
 obtain ⟨rec, hrec⟩ : ∃ rec : LoopState -> Option Code -> Loop, rec = fun st pe => { state := st, pending := pe, fn, tmps := a.tmps, params := ps, assign, body, defers := w.heap.size } := ⟨_, rfl⟩
 obtain ⟨W1, hW1⟩ : ∃ W1, (w.alloc (.deferred (some []))).alloc (.loop (rec .ready none)) = W1 := ⟨_, rfl⟩
 have hL1 : W1.heap[w.heap.size + 1]? = some (.loop (rec .ready none)) := by
  rw [← hW1]; have := World.alloc_heap_new (w.alloc (.deferred (some []))) (.loop (rec .ready none)); rwa [World.size_alloc] at this
 have hK1 : W1.heap[w.heap.size]? = some (.deferred (some [])) := by
  rw [← hW1]; exact (Below.heap_alloc _ _ _ (by simp)).trans (World.alloc_heap_new w _)
 have hg1 : w.grownBy W1 none := by rw [← hW1]; exact gb_alloc (gb_alloc (gb_refl _ _) _) _
 have hs1 : W1.heap.size = w.heap.size + 2 := by rw [← hW1]; simp
 refine ⟨w.heap.size + 1, [{ target := .collected w.heap.size, args := #[] }], W1, { target := .fn (.func gf) lb, args := #[.func (.yield (w.heap.size + 1)) #[] #[]] }, W1, gf,
  #[.func (.yield (w.heap.size + 1)) #[] #[]] ++ lb, W1, ?_, ?_, fun _ _ => trivial, ?_, by simp [Fence.wide], ?_⟩
 · rw [← hW1, hrec]; exact run_enterLoop_outer _ _ _ _ _
 ·
  simp only [resolve, hg]
  simp [go_sem]
 · simp [invoke, go_sem, eg]
 have keep2 : ∀ {A B : World} {r : Option Nat} {g : Nat} {o : Obj}, A.heap[g]? = some o -> A.grownBy B r -> (∀ x, r = some x -> W1.heap.size <= x) -> g < W1.heap.size -> B.heap[g]? = some o := fun {A B r g o} h hg hr hlt =>
  (hg.block g (Array.getElem?_eq_some_iff.1 h).1 (fun e => by have := hr g e.symm; omega)).trans h
 refine callsIn_wide.2 ((hseq (w.heap.size + 1)
  (fun hi i W => I hi i W /\ W.heap[w.heap.size + 1]? = some (.loop (rec .ready none)) /\ W.heap[w.heap.size]? = some (.deferred (some [])))
  (fun hi i W => ∃ c, Ix c hi i W /\ W.heap[w.heap.size + 1]? = some (.loop (rec .done (some c))) /\ W.heap[w.heap.size]? = some (.deferred (some [])))
  W1 (fun hi i A B r hs hg' hr => ⟨hI hi i A B r hs.1 hg' (fun x e => by have := hr x e; omega), keep2 hs.2.1 hg' (fun x e => (hr x e).1) (by omega), keep2 hs.2.2 hg' (fun x e => (hr x e).1) (by omega)⟩)
  (fun hi i A B r hs hg' hr => by
   obtain ⟨c, hc, hl, hk⟩ := hs
   exact ⟨c, hIx c hi i A B r hc hg' (fun x e => by have := hr x e; omega), keep2 hl hg' (fun x e => (hr x e).1) (by omega), keep2 hk hg' (fun x e => (hr x e).1) (by omega)⟩)
  (fun hi i A hs => hH hi i A hs.1) ?_
  (fun hi B hg' hh => ⟨h0 hi B (gb_trans hg1 hg') hh (by have := hg'.size; omega), keep2 hL1 hg' (fun x e => by cases e) (by omega), keep2 hK1 hg' (fun x e => by cases e) (by omega)⟩)).mono ?_)
 ·
  rintro hi i W ⟨hi', hl, hk⟩ hlen hhi
  have hlt : w.heap.size + 1 < W.heap.size := (Array.getElem?_eq_some_iff.1 hl).1
  have hy := run_yield (P := P) (args := el i) hl (by rw [hrec]; exact hps i)
  rw [hrec] at hy
  have hhW : hi <= W.heap.size := (hH hi i W hi').2
  refine ⟨fn, _, assign, body, hy, roundIn_of_wpIn hfn (wpIn_mono (hround (w.heap.size + 1) hi i W hi' hlen (by omega) hhW) ?_)⟩
  clear hy
  intro e a' Wa hpost
  cases e with
  | normal =>
   obtain ⟨hkr, hb⟩ := hpost
   have hla := (hkr.2 (w.heap.size + 1) (by omega) (by omega)).trans hl
   have hka := (hkr.2 w.heap.size (by omega) (by omega)).trans hk
   refine ⟨_, run_beginRound hla (by rw [hrec]), ?_⟩
   have hlta : w.heap.size + 1 < Wa.heap.size := (Array.getElem?_eq_some_iff.1 hla).1
   have hl2 : (Wa.putObj (w.heap.size + 1) (.loop { rec .ready none with state := .busy })).heap[w.heap.size + 1]? = some (.loop { rec .ready none with state := .busy }) := World.putObj_heap_same hlta
   have hk2 : (Wa.putObj (w.heap.size + 1) (.loop { rec .ready none with state := .busy })).heap[w.heap.size]? = some (.deferred (some [])) := (World.putObj_heap_other (by omega)).trans hka
   refine wpIn_mono (hb _ (grownBy_putObj' _ _ _)) ?_
   have fin : ∀ (jump : Option Code) (W3 : World), KeepR w.heap.size hi (Wa.putObj (w.heap.size + 1) (.loop { rec .ready none with state := .busy })) W3 →
     (Instr.endRound (w.heap.size + 1) jump).run P W3 = .ok (.bool jump.isNone) (W3.putObj (w.heap.size + 1) (.loop (rec (if jump.isNone then .ready else .done) jump))) ∧
     W3.heap[w.heap.size + 1]? = some (.loop { rec .ready none with state := .busy }) ∧
     (W3.putObj (w.heap.size + 1) (.loop (rec (if jump.isNone then .ready else .done) jump))).heap[w.heap.size + 1]? = some (.loop (rec (if jump.isNone then .ready else .done) jump)) ∧
     (W3.putObj (w.heap.size + 1) (.loop (rec (if jump.isNone then .ready else .done) jump))).heap[w.heap.size]? = some (.deferred (some [])) ∧
     KeepR W1.heap.size hi W (W3.putObj (w.heap.size + 1) (.loop (rec (if jump.isNone then .ready else .done) jump))) := fun jump W3 hk3 => by
    have hl3 := (hk3.2 (w.heap.size + 1) (by omega) (by omega)).trans hl2
    have := run_endRound (P := P) jump hl3
    rw [hrec] at this ⊢
    refine ⟨this, by rw [hrec] at hl3; exact hl3, World.putObj_heap_same (Array.getElem?_eq_some_iff.1 hl3).1, (World.putObj_heap_other (by omega)).trans ((hk3.2 w.heap.size (by omega) (by omega)).trans hk2), ?_, fun g h1 h2 => ?_⟩
    · have := hk3.1; simpa [World.putObj] using this
    · refine (World.putObj_heap_other (by omega)).trans ((hk3.2 g (by omega) h2).trans ((World.putObj_heap_other (by omega)).trans (hkr.2 g (by omega) h2)))
   rintro e a3 W3 hp3
   cases e with
   | normal =>
    obtain ⟨hr, hl3, hl4, hk4, hk5⟩ := fin none W3 hp3.1
    exact ⟨_, _, hr, .inl ⟨rfl, ⟨hI hi _ _ _ _ hp3.2 (grownBy_putObj' _ _ _) (fun x e => by cases e; omega), hl4, hk4⟩, hk5⟩⟩
   | ret =>
    obtain ⟨hr, hl3, hl4, hk4, hk5⟩ := fin (some .ret) W3 hp3.1
    exact ⟨_, _, hr, .inr ⟨rfl, .ret, hIx _ hi _ _ _ _ hp3.2 (grownBy_putObj' _ _ _) (fun x e => by cases e; omega), hl4, hk4⟩⟩
   | exit id =>
    obtain ⟨hr, hl3, hl4, hk4, hk5⟩ := fin (some (.exit id)) W3 hp3.1
    exact ⟨_, _, hr, .inr ⟨rfl, .exit id, hIx _ hi _ _ _ _ hp3.2 (grownBy_putObj' _ _ _) (fun x e => by cases e; omega), hl4, hk4⟩⟩
   | goto t =>
    obtain ⟨hr, hl3, hl4, hk4, hk5⟩ := fin (some (.goto t)) W3 hp3.1
    exact ⟨_, _, hr, .inr ⟨rfl, .goto t, hIx _ hi _ _ _ _ hp3.2 (grownBy_putObj' _ _ _) (fun x e => by cases e; omega), hl4, hk4⟩⟩
   | panic ch => exact hp3.elim
   | outgrown => exact hp3.elim
  | ret => exact hpost.elim
  | exit id => exact hpost.elim
  | goto t => exact hpost.elim
  | panic ch => exact hpost.elim
  | outgrown => exact hpost.elim
 rintro e W2 ⟨⟨v, rfl⟩, hi, hhi, (⟨hi', hl, hk⟩ | ⟨i, hiN, c, hi', hl, hk⟩)⟩
 · exact ⟨none, _, by have := run_endLoop (P := P) hl (by rw [hrec]; simp); rw [hrec] at this; exact this, hdone hi _ (by omega) (hI hi _ _ _ _ hi' (grownBy_putObj' _ _ _) (fun x e => by cases e; omega)) ((World.putObj_heap_other (by omega)).trans hk)⟩
 · exact ⟨some c, _, by have := run_endLoop (P := P) hl (by rw [hrec]; simp); rw [hrec] at this; exact this, wpIn_wide.2 (hstop c hi i _ (by omega) hiN (hIx c hi _ _ _ _ hi' (grownBy_putObj' _ _ _) (fun x e => by cases e; omega)) ((World.putObj_heap_other (by omega)).trans hk))⟩
theorem ru_beginIn {P : Program} {ops : Array Oper} {Q : Exit -> Act -> World -> Prop} {l n id : Nat} {a : Act} {w : World} (S : World -> Prop) (d : Nat) (hm : P.follows .mixedOrders = true) (hd : noDefer ops = true) (hQ : ¬ LetsOut Q) (hS : S w.drew)
  (h : wpAnyU P .any ops Q S d ops.size (Array.replicate ops.size false) a w.drew) : (Code.region id ops true).wpIn (Fence.wide.inRound l) n P Q a w :=
 wpIn_draw hm hd hQ (wpAny_of_U _ _ _ _ h)
def calmQ (Q : Exit -> Act -> World -> Prop) : Exit -> Act -> World -> Prop
 | .panic _, _, _ => False
 | .outgrown, _, _ => False
 | e, a, w => Q e a w
theorem calmQ_le {Q : Exit -> Act -> World -> Prop} (e : Exit) (a : Act) (w : World) (h : calmQ Q e a w) : Q e a w := by
 cases e <;> first | exact h | exact h.elim
def rfix (g : Nat) (t : TypeId) (cs : Array Value) : Res := ⟨false, fun x => x = g, fun w => Bk w g t cs, fun _ _ _ hg hr h => Bk.gb h hg (fun e => hr g e.symm rfl)⟩
theorem Bun.fix0 {w0 : World} {L : List Res} {g : Nat} {t : TypeId} {cs : Array Value} (h : Bun w0 L w0) (hs : Bk w0 g t cs) (hm : L.all (fun r => !r.mine) = true) : Bun w0 (rfix g t cs :: L) w0 := by
 have hm' : ∀ r ∈ L, r.mine = false := fun r hr => by have := List.all_eq_true.1 hm r hr; simpa using this
 refine ⟨fun r hr => ?_, fun r hr g hx => ?_, ?_, h.gb⟩
 ·
  rcases List.mem_cons.1 hr with rfl | hr
  · exact hs
  · exact h.all r hr
 ·
  rcases List.mem_cons.1 hr with rfl | hr
  · cases hx; exact ⟨hs.lt, fun e => by cases e⟩
  · exact h.bd r hr g hx
 rw [List.pairwise_cons]
 exact ⟨(fun x hx hmm => by
  rw [hm' x hx] at hmm
  rcases hmm with h1 | h1 <;> cases h1), h.dis⟩
theorem Bun.non0 {w0 : World} {L : List Res} (r0 : Res) (h : Bun w0 L w0) (hs : r0.P w0) (hx : ∀ g, r0.X g -> g < w0.heap.size) (hr0 : r0.mine = false) (hm : L.all (fun r => !r.mine) = true) : Bun w0 (r0 :: L) w0 := by
 have hm' : ∀ r ∈ L, r.mine = false := fun r hr => by have := List.all_eq_true.1 hm r hr; simpa using this
 refine ⟨fun r hr => ?_, fun r hr g hx' => ?_, ?_, h.gb⟩
 ·
  rcases List.mem_cons.1 hr with rfl | hr
  · exact hs
  · exact h.all r hr
 ·
  rcases List.mem_cons.1 hr with rfl | hr
  · exact ⟨hx g hx', fun e => by rw [hr0] at e; cases e⟩
  · exact h.bd r hr g hx'
 rw [List.pairwise_cons]
 exact ⟨(fun x hx hmm => by
  rw [hm' x hx, hr0] at hmm
  rcases hmm with h1 | h1 <;> cases h1), h.dis⟩
theorem flat_at' {α : Type} {enc : α -> List Value} {sz : Nat} (hsz : ∀ x, (enc x).length = sz) : ∀ (l : List α) (i : Nat) (x : α), l[i]? = some x -> ∀ j u, (enc x)[j]? = some u -> (l.flatMap enc)[i * sz + j]? = some u := by
 intro l
 induction l with
 | nil => intro i x h; simp at h
 | cons y l ih =>
  intro i x hi j u hj
  have hjl : j < sz := by have := (List.getElem?_eq_some_iff.1 hj).1; rw [hsz] at this; exact this
  rw [List.flatMap_cons]
  cases i with
  | zero =>
   simp at hi
   subst hi
   rw [List.getElem?_append_left (by rw [hsz]; omega)]
   simpa using hj
  | succ i =>
   rw [List.getElem?_append_right (by rw [hsz, Nat.succ_mul]; omega), hsz]
   have : (i + 1) * sz + j - sz = i * sz + j := by rw [Nat.succ_mul]; omega
   rw [this]
   exact ih i x (by simpa using hi) j u hj
theorem Bun.lit {α : Type} (enc : α -> List Value) (sz : Nat) (l : List α) (c : Nat) {w0 A : World} {L : List Res} {g : Nat} {t : TypeId} {cs : Array Value} (h : Bun w0 (rbox g t cs :: L) A) (hsz : ∀ x, (enc x).length = sz) (hcs : cs.toList = l.flatMap enc) (hl : l.length <= 1000) :
  Bun w0 (rsl enc sz g (g + 1) (.slice (some ⟨g, 0, none⟩) l.length c) l :: L) A := by
 have hb : Bk A g t cs := h.all _ (.head _)
 have hs : Sl enc sz g (g + 1) A (.slice (some ⟨g, 0, none⟩) l.length c) l :=
  ⟨by unfold maxLen; omega, _, c, rfl, .inr ⟨g, 0, rfl, Nat.le_refl _, by omega, fun i x hi j u hj => by
   have h1 := flat_at' hsz l i x hi j u hj
   rw [← hcs] at h1
   rw [show 0 + i * sz + j = i * sz + j by omega, hb.cell]
   simpa using h1⟩⟩
 have hd := h.dis
 rw [List.pairwise_cons] at hd
 refine ⟨fun r hr => ?_, fun r hr x hx => ?_, ?_, h.gb⟩
 ·
  rcases List.mem_cons.1 hr with rfl | hr
  · exact hs
  · exact h.all r (.tail _ hr)
 ·
  rcases List.mem_cons.1 hr with rfl | hr
  ·
   have e : x = g := by have := hx.1; have := hx.2; omega
   subst e
   exact ⟨hb.lt, fun e => by cases e⟩
  · exact h.bd r (.tail _ hr) x hx
 rw [List.pairwise_cons]
 refine ⟨fun x hx hm y hy1 hy2 => ?_, hd.2⟩
 have e : y = g := by have := hy1.1; have := hy1.2; omega
 subst e
 exact hd.1 x hx (.inl rfl) y rfl hy2
def rmarks (Ds : List Nat) : Res :=
 ⟨true, fun x => x ∈ Ds, fun w => Ds.Nodup /\ ∀ D ∈ Ds, w.heap[D]? = some (.deferred (some [])), fun _ _ _ hg hr h => ⟨h.1, fun D hD => (hg.block D (Array.getElem?_eq_some_iff.1 (h.2 D hD)).1 (fun e => hr D e.symm hD)).trans (h.2 D hD)⟩⟩
def mkD (D : Nat) : Deferred := { target := .collected D, args := #[] }
section
variable {w0 A B : World} {L : List Res} {sd : Nat}
theorem Bun.marks0 (h : Bun w0 L A) : Bun w0 (rmarks [] :: L) A := h.add (rmarks []) (gb_refl _ _) ⟨List.nodup_nil, fun _ h => by cases h⟩ fun _ e => by cases e
theorem Bun.mark {lo hi : Nat} {W0 : World} {Ds : List Nat} (h : Bun w0 (rkeep lo hi W0 :: rmarks Ds :: L) A) (hlt : lo < hi) (hk : A.heap[lo]? = some (.deferred (some []))) : Bun w0 (rmarks (lo :: Ds) :: L) A := by
 have h1 : KeepR lo hi W0 A := h.all _ (.head _)
 have h2 : Ds.Nodup /\ ∀ D ∈ Ds, A.heap[D]? = some (.deferred (some [])) := h.all _ (.tail _ (.head _))
 have hd := h.dis
 rw [List.pairwise_cons] at hd
 have hd2 := hd.2
 rw [List.pairwise_cons] at hd2
 have hn : lo ∉ Ds := fun hm => hd.1 _ (.head _) (.inl rfl) lo ⟨Nat.le_refl _, hlt⟩ hm
 refine ⟨fun r hr => ?_, fun r hr g hx => ?_, ?_, h.gb⟩
 ·
  rcases List.mem_cons.1 hr with rfl | hr
  ·
   exact ⟨List.nodup_cons.2 ⟨hn, h2.1⟩, fun D hD => by
    rcases List.mem_cons.1 hD with rfl | hD
    · exact hk
    · exact h2.2 D hD⟩
  · exact h.all r (.tail _ (.tail _ hr))
 ·
  rcases List.mem_cons.1 hr with rfl | hr
  ·
   rcases List.mem_cons.1 hx with rfl | hx
   · exact h.bd _ (.head _) g ⟨Nat.le_refl _, hlt⟩
   · exact h.bd _ (.tail _ (.head _)) g hx
  · exact h.bd r (.tail _ (.tail _ hr)) g hx
 rw [List.pairwise_cons]
 refine ⟨fun x hx hm g hg1 hg2 => ?_, hd2.2⟩
 rcases List.mem_cons.1 hg1 with rfl | hg1
 · exact hd.1 x (.tail _ hx) (.inl rfl) g ⟨Nat.le_refl _, hlt⟩ hg2
 · exact hd2.1 x hx (.inl rfl) g hg1 hg2
theorem Bun.marks {Ds : List Nat} (h : Bun w0 (rmarks Ds :: L) A) : Marks w0.heap.size A (Ds.map mkD) := by
 have h2 : Ds.Nodup /\ ∀ D ∈ Ds, A.heap[D]? = some (.deferred (some [])) := h.all _ (.head _)
 exact ⟨Ds, rfl, h2.1, fun D hD => ⟨(h.bd _ (.head _) D hD).2 rfl, h2.2 D hD⟩⟩
end
structure AllocS where
 k : Nat
 d : Nat
 t : TypeId
 cs : Array Value
 v : Nat -> Value
def mrk (l : Array Bool) : List Nat -> Array Bool
 | [] => l
 | i :: is => mrk (l.setIfInBounds i true) is
theorem mrk_size : ∀ (is : List Nat) (l : Array Bool), (mrk l is).size = l.size
 | [], _ => rfl
 | i :: is, l => by rw [mrk, mrk_size is]; simp
theorem mrk_get : ∀ (is : List Nat) (l : Array Bool) (i : Nat), i < l.size -> ((mrk l is).getD i false = true ↔ l.getD i false = true ∨ i ∈ is)
 | [], l, i, h => by simp [mrk]
 | x :: is, l, i, h => by
  rw [mrk, mrk_get is _ i (by simpa using h)]
  by_cases e : x = i
  · subst e; simp [h]
  rw [getD_set_ne false e]
  simp [Ne.symm e]
def Ups (l0 listed : Array Bool) (X : Nat -> Prop) : Prop := listed.size = l0.size /\ ∀ i, i < l0.size -> (listed.getD i false = true ↔ l0.getD i false = true ∨ X i)
theorem getD_tf {l : Array Bool} {i : Nat} (h : i < l.size) : l.getD i true = l.getD i false := by simp [h]
theorem getD_lt {l : Array Bool} {i : Nat} (h : l.getD i true = false) : i < l.size := by
 rcases Nat.lt_or_ge i l.size with h' | h'
 · exact h'
 · simp [Array.getElem?_eq_none h'] at h
theorem getD_lt' {l : Array Bool} {i : Nat} (h : l.getD i false = true) : i < l.size := by
 rcases Nat.lt_or_ge i l.size with h' | h'
 · exact h'
 · simp [Array.getElem?_eq_none h'] at h
section
variable {ops : Array Oper} {md : Region.Mode} {l0 listed : Array Bool} {X : Nat -> Prop}
theorem Ups.mrk (l0 : Array Bool) (xs : List Nat) : Ups l0 (mrk l0 xs) (fun i => i ∈ xs) := ⟨mrk_size xs l0, fun i hi => mrk_get xs l0 i hi⟩
theorem Ups.set {i : Nat} (h : Ups l0 listed X) : Ups l0 (listed.setIfInBounds i true) (fun x => X x ∨ x = i) := by
 refine ⟨by simpa using h.1, fun x hx => ?_⟩
 by_cases e : i = x
 ·
  subst e
  have : i < listed.size := by rw [h.1]; exact hx
  simp [this]
 rw [getD_set_ne false e, h.2 x hx]
 constructor
 ·
  rintro (a | a)
  · exact .inl a
  · exact .inr (.inl a)
 rintro (a | a | a)
 · exact .inl a
 · exact .inr a
 · exact absurd a.symm e
theorem Ups.ext {listed' : Array Bool} (h : Ups l0 listed X) (h' : Ups l0 listed' X) : listed = listed' := by
 refine Array.ext (h.1.trans h'.1.symm) fun i h1 h2 => ?_
 have hi : i < l0.size := by rw [← h.1]; exact h1
 have a := (h.2 i hi).trans (h'.2 i hi).symm
 simp only [Array.getD_eq_getD_getElem?, Array.getElem?_eq_getElem h1, Array.getElem?_eq_getElem h2, Option.getD_some] at a
 cases e1 : listed[i] <;> cases e2 : listed'[i] <;> simp_all
theorem Ups.congr {Y : Nat -> Prop} (h : Ups l0 listed X) (hxy : ∀ i, X i ↔ Y i) : Ups l0 listed Y := ⟨h.1, fun i hi => by rw [h.2 i hi, hxy i]⟩
theorem ready_more {listed' : Array Bool} {Y : Nat -> Prop} {i : Nat} (h : Ups l0 listed X) (h' : Ups l0 listed' Y) (hxy : ∀ x, X x -> Y x) (hi : i ∈ Region.ready md ops listed) (hn : ¬ Y i) : i ∈ Region.ready md ops listed' := by
 rw [mem_ready] at hi ⊢
 obtain ⟨h0, o, ho, ha⟩ := hi
 have hl := getD_lt h0
 rw [getD_tf hl] at h0
 have hl0 : i < l0.size := by rw [← h.1]; exact hl
 have hl' : i < listed'.size := by rw [h'.1]; exact hl0
 refine ⟨?_, o, ho, fun e he hb => ?_⟩
 ·
  rw [getD_tf hl']
  have : ¬ listed'.getD i false = true := fun e => by
   rcases (h'.2 i hl0).1 e with e1 | e1
   · have := (h.2 i hl0).2 (.inl e1); rw [h0] at this; cases this
   · exact hn e1
  simpa using this
 have h1 := ha e he hb
 have hx : e.on < l0.size := by rw [← h.1]; exact getD_lt' h1
 rcases (h.2 _ hx).1 h1 with h2 | h2
 · exact (h'.2 _ hx).2 (.inl h2)
 · exact (h'.2 _ hx).2 (.inr (hxy _ h2))
end
def upd (t : Nat -> Value) (d : Nat) (v : Value) : Nat -> Value := fun i => if i = d then v else t i
theorem slot_put {a : Act} {d : Nat} {v : Value} (h : d < a.tmps.size) : slot (a.put (some d) v).tmps = upd (slot a.tmps) d v := by
 funext i
 unfold slot upd
 by_cases e : i = d
 · subst e; simp [Act.put, h]
 · simp [Act.put, e, Array.getElem?_setIfInBounds_ne (Ne.symm e)]
theorem frame_slots {T : Array Value} {n : Nat} (hT : T.size = n) : T = ((List.range n).map (slot T)).toArray := by
 refine Array.ext (by simp [hT]) fun i h1 h2 => ?_
 simp [slot, h1]
section
variable {P : Program} {ops : Array Oper} {Q : Exit -> Act -> World -> Prop} {md : Region.Mode} {S : World -> Prop} {d : Nat}
structure GoodG (G : List Res -> World -> Prop) : Prop where
 gn : ∀ L A B, G L A -> A.grownBy B none -> G L B
 new : ∀ L A t cs, G L A -> G (rbox A.heap.size t cs :: L) (A.alloc (.cells cs t))
 perm : ∀ L L' A, G L A -> L.Perm L' -> G L' A
theorem goodBunS (w0 : World) (k : Nat) : GoodG (fun L W => Bun w0 L W /\ k <= W.heap.size) := ⟨fun _ _ _ h hg => ⟨h.1.gn hg, Nat.le_trans h.2 hg.size⟩, fun _ _ t cs h => ⟨h.1.new t cs rfl, by have := h.2; simp; omega⟩, fun _ _ _ h hp => ⟨h.1.perm hp, h.2⟩⟩
def boxOf (p : AllocS × Nat) : Res := rbox p.2 p.1.t p.1.cs
def ptrOf (g : Nat) : Value := .pointer (some ⟨g, 0, none⟩)
structure St (G : List Res -> World -> Prop) (n : Nat) (U : (Nat -> Value) -> Prop) (Lb : List Res) (done : List (AllocS × Nat)) (a : Act) (w : World) : Prop where
 size : a.tmps.size = n
 defers : a.defers = []
 u : U (slot a.tmps)
 ptr : ∀ p ∈ done, slot a.tmps p.1.d = p.1.v p.2
 g : G (done.map boxOf ++ Lb) w
def Step (P : Program) (ops : Array Oper) (Q : Exit -> Act -> World -> Prop) (S : World -> Prop) (G : List Res -> World -> Prop) (n : Nat) (ls : List AllocS) (i : Nat) (U U' : (Nat -> Value) -> Prop) (Lb Lb' : List Res) : Prop :=
 ∀ (t : Nat -> Value) (w : World) (LA : List Res), U t -> G (Lb ++ LA) w →
  wpOp P ops Q i (fun a' w' => a'.tmps.size = n /\ a'.defers = [] /\ U' (slot a'.tmps) /\ (∀ al ∈ ls, slot a'.tmps al.d = t al.d) /\ G (Lb' ++ LA) w' /\ S w') { tmps := ((List.range n).map t).toArray, defers := [] } w
def StepP (P : Program) (ops : Array Oper) (n : Nat) (ls : List AllocS) (oi : Oper) (U U' : (Nat -> Value) -> Prop) : Prop :=
 ∀ (t : Nat -> Value), U t -> ∃ v, YieldsIf P ops (fun _ => True) oi v { tmps := ((List.range n).map t).toArray, defers := [] } ∧
  ((Act.put { tmps := ((List.range n).map t).toArray, defers := [] } oi.dst v).tmps.size = n /\ (Act.put { tmps := ((List.range n).map t).toArray, defers := [] } oi.dst v).defers = []) ∧
  U' (slot (Act.put { tmps := ((List.range n).map t).toArray, defers := [] } oi.dst v).tmps) /\ ∀ al ∈ ls, slot (Act.put { tmps := ((List.range n).map t).toArray, defers := [] } oi.dst v).tmps al.d = t al.d
inductive Chain (P : Program) (ops : Array Oper) (Q : Exit -> Act -> World -> Prop) (G : List Res -> World -> Prop) (S : World -> Prop) (V : (Nat -> Value) -> Prop) (n : Nat) (ls : List AllocS) (md : Region.Mode) (l0 : Array Bool) (d : Nat) : List Nat -> List Nat -> ((Nat -> Value) -> Prop) -> List Res -> ((Nat -> Value) -> Prop) -> List Res -> Prop
 | nil (pre : List Nat) (U : (Nat -> Value) -> Prop) (Lb : List Res) (hst : ∀ al ∈ ls, ∀ t v, U t -> U (upd t al.d v)) (hS : ∀ LA w, G (Lb ++ LA) w -> S w) (hV : ∀ t, U t -> V t) : Chain P ops Q G S V n ls md l0 d pre [] U Lb U Lb
 | call (pre : List Nat) (i : Nat) (is : List Nat) (U U' Um : (Nat -> Value) -> Prop) (Lb Lb' Lm : List Res)
   (hst : ∀ al ∈ ls, ∀ t v, U t -> U (upd t al.d v)) (hS : ∀ LA w, G (Lb ++ LA) w -> S w) (hV : ∀ t, U t -> V t) (hc : (Region.ready md ops (mrk l0 (pre ++ ls.map (·.k))) == [i] && (Region.ready md ops (mrk l0 pre)).contains i && decide (i ≠ d) && closedB md ops (mrk l0 pre)) = true)
   (hs : Step P ops Q S G n ls i U U' Lb Lb') (hr : Chain P ops Q G S V n ls md l0 d (pre ++ [i]) is U' Lb' Um Lm) : Chain P ops Q G S V n ls md l0 d pre (i :: is) U Lb Um Lm
 | pure (pre : List Nat) (i : Nat) (oi : Oper) (is : List Nat) (U U' Um : (Nat -> Value) -> Prop) (Lb Lm : List Res) (hi : ops[i]? = some oi)
   (hst : ∀ al ∈ ls, ∀ t v, U t -> U (upd t al.d v)) (hS : ∀ LA w, G (Lb ++ LA) w -> S w) (hV : ∀ t, U t -> V t) (hc : (Region.free md ops (mrk l0 pre) i && (Region.ready md ops (mrk l0 pre)).contains i && decide (i ≠ d) && closedB md ops (mrk l0 pre)) = true)
   (hs : StepP P ops n ls oi U U') (hr : Chain P ops Q G S V n ls md l0 d (pre ++ [i]) is U' Lb Um Lm) : Chain P ops Q G S V n ls md l0 d pre (i :: is) U Lb Um Lm
theorem Chain.callS {P : Program} {ops : Array Oper} {Q : Exit -> Act -> World -> Prop} {G : List Res -> World -> Prop} {S : World -> Prop} {V : (Nat -> Value) -> Prop} {n : Nat} {ls : List AllocS} {md : Region.Mode} {l0 : Array Bool} {d : Nat} {pre : List Nat} (i : Nat) {is : List Nat} {U : (Nat -> Value) -> Prop} (U' : (Nat -> Value) -> Prop) {Um : (Nat -> Value) -> Prop} {Lb Lm : List Res}
  (hst : ∀ al ∈ ls, ∀ t v, U t -> U (upd t al.d v)) (hS : ∀ LA w, G (Lb ++ LA) w -> S w) (hV : ∀ t, U t -> V t) (hc : (Region.ready md ops (mrk l0 (pre ++ ls.map (·.k))) == [i] && (Region.ready md ops (mrk l0 pre)).contains i && decide (i ≠ d) && closedB md ops (mrk l0 pre)) = true)
  (hs : Step P ops Q S G n ls i U U' Lb Lb) (hr : Chain P ops Q G S V n ls md l0 d (pre ++ [i]) is U' Lb Um Lm) : Chain P ops Q G S V n ls md l0 d pre (i :: is) U Lb Um Lm := Chain.call _ _ _ _ U' _ _ Lb _ hst hS hV hc hs hr
theorem Chain.pureS {P : Program} {ops : Array Oper} {Q : Exit -> Act -> World -> Prop} {G : List Res -> World -> Prop} {S : World -> Prop} {V : (Nat -> Value) -> Prop} {n : Nat} {ls : List AllocS} {md : Region.Mode} {l0 : Array Bool} {d : Nat} {pre : List Nat} (i : Nat) {oi : Oper} {is : List Nat} {U : (Nat -> Value) -> Prop} (U' : (Nat -> Value) -> Prop) {Um : (Nat -> Value) -> Prop} {Lb Lm : List Res} (hi : ops[i]? = some oi)
  (hst : ∀ al ∈ ls, ∀ t v, U t -> U (upd t al.d v)) (hS : ∀ LA w, G (Lb ++ LA) w -> S w) (hV : ∀ t, U t -> V t) (hc : (Region.free md ops (mrk l0 pre) i && (Region.ready md ops (mrk l0 pre)).contains i && decide (i ≠ d) && closedB md ops (mrk l0 pre)) = true)
  (hs : StepP P ops n ls oi U U') (hr : Chain P ops Q G S V n ls md l0 d (pre ++ [i]) is U' Lb Um Lm) : Chain P ops Q G S V n ls md l0 d pre (i :: is) U Lb Um Lm := Chain.pure _ _ _ _ _ U' _ _ _ hi hst hS hV hc hs hr
theorem wpOp_stepH {P : Program} {ops : Array Oper} {Q : Exit -> Act -> World -> Prop} {i : Nat} {o : Oper} {K : Act -> World -> Prop} {a : Act} {w : World} (ho : ops[i]? = some o)
  (h : ∀ K' : Act -> World -> Prop, Hid (∀ a w, K a w -> K' a w) -> if Region.wanted o (yielded ops a.tmps) = true then Oper.wp P o a w K' Q else K' (a.put o.dst undef) w) : wpOp P ops Q i K a w := wpOp_step ho fun K' hK => h K' (lhd hK)
def mixOk (ops : Array Oper) (md : Region.Mode) (l0 : Array Bool) (is : List Nat) (ls : List AllocS) (d : Nat) : Bool :=
 Region.noSelect ops && decide (l0.size = ops.size) && !l0.getD d true && is.all (fun i => decide (i ≠ d)) &&
 ls.all (fun al => (match ops[al.k]? with | some o => o.after.all (fun e => !Region.binds md e || l0.getD e.on false) | none => false) && decide (al.k ≠ d) && !l0.getD al.k true && !is.contains al.k &&
  (Region.ready md ops (mrk l0 (is ++ ((ls.map (·.k)).filter (fun k => k != al.k)))) == [al.k])) && decide (ls.map (·.k)).Nodup
theorem closed_more {l0 listed : Array Bool} {pre : List Nat} {done : List (AllocS × Nat)} (hU : Ups l0 listed (fun i => i ∈ pre ∨ i ∈ done.map (·.1.k))) (hc : closedB md ops (mrk l0 pre) = true)
  (hd : ∀ p ∈ done, ∀ o, ops[p.1.k]? = some o -> ∀ e ∈ o.after, Region.binds md e = true -> l0.getD e.on false = true) : Closed md ops listed := by
 intro j oj hj hl e he hb
 have hjl := getD_lt' hl
 have hj0 : j < l0.size := by rw [← hU.1]; exact hjl
 have up : ∀ x, l0.getD x false = true ∨ x ∈ pre -> x < l0.size -> listed.getD x false = true := fun x hx hlt => (hU.2 x hlt).2 (hx.imp id .inl)
 rcases (hU.2 j hj0).1 hl with h | h | h
 ·
  have h1 := closedB_spec hc j oj hj ((mrk_get pre l0 j hj0).2 (.inl h)) e he hb
  have hx := getD_lt' h1
  rw [mrk_size] at hx
  exact up _ ((mrk_get pre l0 _ hx).1 h1) hx
 ·
  have h1 := closedB_spec hc j oj hj ((mrk_get pre l0 j hj0).2 (.inr h)) e he hb
  have hx := getD_lt' h1
  rw [mrk_size] at hx
  exact up _ ((mrk_get pre l0 _ hx).1 h1) hx
 obtain ⟨p, hp, rfl⟩ := List.mem_map.1 h
 have h1 := hd p hp oj hj e he hb
 exact up _ (.inl h1) (getD_lt' h1)
structure MixOk (ops : Array Oper) (md : Region.Mode) (l0 : Array Bool) (isA : List Nat) (ls : List AllocS) (d : Nat) : Prop where
 sel : Region.noSelect ops = true
 size : l0.size = ops.size
 dd : l0.getD d true = false
 isd : ∀ i ∈ isA, i ≠ d
 dep : ∀ al ∈ ls, ∃ o, ops[al.k]? = some o /\ ∀ e ∈ o.after, Region.binds md e = true -> l0.getD e.on false = true
 kd : ∀ al ∈ ls, al.k ≠ d
 k0 : ∀ al ∈ ls, l0.getD al.k true = false
 ki : ∀ al ∈ ls, al.k ∉ isA
 last : ∀ al ∈ ls, Region.ready md ops (mrk l0 (isA ++ ((ls.map (·.k)).filter (fun k => k != al.k)))) = [al.k]
 nodup : (ls.map (·.k)).Nodup
theorem mixOk_spec {l0 : Array Bool} {isA : List Nat} {ls : List AllocS} (h : mixOk ops md l0 isA ls d = true) : MixOk ops md l0 isA ls d := by
 unfold mixOk at h
 simp only [Bool.and_eq_true, decide_eq_true_eq, List.all_eq_true, Bool.not_eq_true', beq_iff_eq] at h
 obtain ⟨⟨⟨⟨⟨h1, h2⟩, h3⟩, h4⟩, h5⟩, h6⟩ := h
 refine ⟨h1, h2, h3, h4, fun al ha => ?_, fun al ha => (h5 al ha).1.1.1.2, fun al ha => (h5 al ha).1.1.2, fun al ha hm => ?_, fun al ha => (h5 al ha).2, h6⟩
 ·
  have h7 := (h5 al ha).1.1.1.1
  split at h7
  ·
   rename_i o ho
   refine ⟨o, ho, fun e he hb => ?_⟩
   have h8 := Array.all_eq_true'.1 h7 e he
   rw [hb] at h8
   simpa using h8
  · cases h7
 have := (h5 al ha).1.2
 simp [hm] at this
theorem mix_go {G : List Res -> World -> Prop} (hG : GoodG G) {n : Nat} {ls : List AllocS} {l0 : Array Bool} {isA : List Nat} (hok : MixOk ops md l0 isA ls d)
  (hQ : ∀ c a q v w, Q (.panic c) (Act.put a (some q) v) w -> Q (.panic c) a w) {V Um : (Nat -> Value) -> Prop} {Lm : List Res}
  (hn : ∀ al ∈ ls, al.d < n) (hdd : (ls.map (·.d)).Nodup) {fuelF : Nat}
  (halloc : ∀ al ∈ ls, ∀ (t : Nat -> Value) (w : World) (K : Act -> World -> Prop), V t -> K (Act.put { tmps := ((List.range n).map t).toArray, defers := [] } (some al.d) (al.v w.heap.size)) (w.alloc (.cells al.cs al.t)) -> wpOp P ops Q al.k K { tmps := ((List.range n).map t).toArray, defers := [] } w)
  (hrest : ∀ (done : List (AllocS × Nat)) (a : Act) (w : World), (done.map (·.1)).Perm ls -> St G n Um Lm done a w -> wpAnyU P md ops Q S d fuelF (mrk l0 (isA ++ ls.map (·.k))) a w) :
  ∀ (r : Nat) (pre is : List Nat) (U : (Nat -> Value) -> Prop) (Lb : List Res) (done : List (AllocS × Nat)) (rem : List AllocS) (listed : Array Bool) (a : Act) (w : World),
  pre ++ is = isA -> is.length + rem.length = r -> Chain P ops Q G S V n ls md l0 d pre is U Lb Um Lm →
  (done.map (·.1) ++ rem).Perm ls -> Ups l0 listed (fun i => i ∈ pre ∨ i ∈ done.map (·.1.k)) →
  St G n U Lb done a w -> wpAnyU P md ops Q S d (fuelF + r) listed a w := by
 intro r
 induction r with
 | zero =>
  intro pre is U Lb done rem listed a w hp hr hch hperm hU hst
  have h1 : is.length = 0 := by omega
  have h2 : rem.length = 0 := by omega
  obtain rfl := List.length_eq_zero_iff.1 h1
  obtain rfl := List.length_eq_zero_iff.1 h2
  rw [List.append_nil] at hperm
  have hpre : pre = isA := by simpa using hp
  subst hpre
  have hlist : listed = mrk l0 (pre ++ ls.map (·.k)) := by
   refine hU.ext ((Ups.mrk l0 _).congr fun i => ?_)
   rw [List.mem_append]
   refine or_congr Iff.rfl ?_
   have := (hperm.map (·.k)).mem_iff (a := i)
   rw [List.map_map] at this
   exact this.symm
  cases hch
  rw [hlist]
  exact hrest done a w hperm hst
 | succ r ih =>
  intro pre is U Lb done rem listed a w hp hr hch hperm hU hst
  have hsz : listed.size = ops.size := hU.1.trans hok.size
  have hmem : ∀ al, al ∈ ls ↔ al ∈ done.map (·.1) ∨ al ∈ rem := fun al => by rw [← hperm.mem_iff, List.mem_append]
  have hknd : ((done.map (·.1) ++ rem).map (·.k)).Nodup := (hperm.map (·.k)).nodup_iff.2 hok.nodup
  have hdnd : ((done.map (·.1) ++ rem).map (·.d)).Nodup := (hperm.map (·.d)).nodup_iff.2 hdd
  have hunl : listed.getD d true = false := by
   have hdl := getD_lt hok.dd
   have hdl' : d < listed.size := by rw [hU.1]; exact hdl
   rw [getD_tf hdl']
   have : ¬ listed.getD d false = true := fun e => by
    rcases (hU.2 d hdl).1 e with e1 | e1 | e1
    · have := hok.dd; rw [getD_tf hdl, e1] at this; cases this
    · exact hok.isd d (hp ▸ List.mem_append.2 (.inl e1)) rfl
    obtain ⟨p, hpm, e2⟩ := List.mem_map.1 e1
    exact hok.kd p.1 ((hmem p.1).2 (.inl (List.mem_map.2 ⟨p, hpm, rfl⟩))) e2
   simpa using this
  have hust : ∀ al ∈ ls, ∀ t v, U t -> U (upd t al.d v) := by cases hch <;> assumption
  have hVst : ∀ t, U t -> V t := by cases hch <;> assumption
  have hSG : ∀ (LA : List Res) (w : World), G (LA ++ Lb) w -> S w := fun LA w h => by
   have h' : G (Lb ++ LA) w := hG.perm _ _ _ h List.perm_append_comm
   cases hch with
   | nil _ _ _ _ hS _ => exact hS LA w h'
   | call _ _ _ _ _ _ _ _ _ _ hS => exact hS LA w h'
   | pure _ _ _ _ _ _ _ _ _ _ _ hS => exact hS LA w h'
  -- an allocation
  have doalloc : ∀ al ∈ rem, wpOp P ops Q al.k (fun a' w' => ((listed.setIfInBounds al.k true).getD d true = false -> S w') /\ wpAnyU P md ops Q S d (fuelF + r) (listed.setIfInBounds al.k true) a' w') a w := by
   intro al hal
   have hals := (hmem al).2 (.inr hal)
   obtain ⟨s1, s2, hrem⟩ := List.append_of_mem hal
   have ha : a = { tmps := ((List.range n).map (slot a.tmps)).toArray, defers := [] } := by
    obtain ⟨T, D⟩ := a
    have := hst.defers
    simp only at this
    rw [this, ← frame_slots hst.size]
   have hVa : V (slot a.tmps) := hVst _ hst.u
   have hpa := halloc al hals (slot a.tmps) w (fun a' w' => ((listed.setIfInBounds al.k true).getD d true = false -> S w') /\ wpAnyU P md ops Q S d (fuelF + r) (listed.setIfInBounds al.k true) a' w') hVa
   rw [← ha] at hpa
   refine hpa ?_
   have hsl : slot (Act.put a (some al.d) (al.v w.heap.size)).tmps = upd (slot a.tmps) al.d (al.v w.heap.size) := slot_put (by rw [hst.size]; exact hn al hals)
   have hst' : St G n U Lb ((al, w.heap.size) :: done) (Act.put a (some al.d) (al.v w.heap.size)) (w.alloc (.cells al.cs al.t)) := by
    refine ⟨by simp [Act.put, hst.size], hst.defers, by rw [hsl]; exact hust al hals _ _ hst.u, fun p hpm => ?_, hG.new _ _ _ _ hst.g⟩
    rw [hsl]
    rcases List.mem_cons.1 hpm with rfl | hpm
    · simp [upd]
    have hne : p.1.d ≠ al.d := fun e => by
     rw [List.map_append, List.nodup_append] at hdnd
     exact hdnd.2.2 p.1.d (List.mem_map.2 ⟨p.1, List.mem_map.2 ⟨p, hpm, rfl⟩, rfl⟩) al.d (List.mem_map.2 ⟨al, hal, rfl⟩) e
    simp only [upd, if_neg hne]
    exact hst.ptr p hpm
   refine ⟨fun _ => hSG ((al, w.heap.size) :: done |>.map boxOf) _ hst'.g, ih pre is U Lb ((al, w.heap.size) :: done) (s1 ++ s2) _ _ _ hp (by rw [hrem] at hr; simp at hr ⊢; omega) hch ?_ ?_ hst'⟩
   ·
    refine List.Perm.trans ?_ hperm
    rw [hrem, List.map_cons]
    show (al :: (done.map (·.1) ++ (s1 ++ s2))).Perm _
    rw [← List.append_assoc, ← List.append_assoc]
    exact List.perm_middle.symm
   refine hU.set.congr fun i => ?_
   simp only [List.map_cons, List.mem_cons]
   constructor
   ·
    rintro ((h | h) | h)
    · exact .inl h
    · exact .inr (.inr h)
    · exact .inr (.inl h)
   rintro (h | h | h)
   · exact .inl (.inl h)
   · exact .inr h
   · exact .inl (.inr h)
  have rdalloc : ∀ al ∈ rem, al.k ∈ Region.ready md ops listed := by
   intro al hal
   have hals := (hmem al).2 (.inr hal)
   obtain ⟨o, ho, hdep⟩ := hok.dep al hals
   have hk0 := hok.k0 al hals
   have hkl := getD_lt hk0
   rw [mem_ready]
   refine ⟨?_, o, ho, fun e he hb => ?_⟩
   ·
    have hkl' : al.k < listed.size := by rw [hU.1]; exact hkl
    rw [getD_tf hkl']
    have : ¬ listed.getD al.k false = true := fun e => by
     rcases (hU.2 _ hkl).1 e with e1 | e1 | e1
     · rw [getD_tf hkl, e1] at hk0; cases hk0
     · exact hok.ki al hals (hp ▸ List.mem_append.2 (.inl e1))
     rw [List.map_append, List.nodup_append] at hknd
     obtain ⟨p, hpm, e2⟩ := List.mem_map.1 e1
     exact hknd.2.2 p.1.k (List.mem_map.2 ⟨p.1, List.mem_map.2 ⟨p, hpm, rfl⟩, rfl⟩) al.k (List.mem_map.2 ⟨al, hal, rfl⟩) e2
    simpa using this
   have h1 := hdep e he hb
   exact (hU.2 _ (getD_lt' h1)).2 (.inl h1)
  -- what may come up among the allocations
  have among : ∀ i ∈ Region.ready md ops listed, i ∈ ls.map (·.k) -> ∃ al ∈ rem, al.k = i := by
   intro i hi hm
   obtain ⟨al, hal, rfl⟩ := List.mem_map.1 hm
   rcases (hmem al).1 hal with h | h
   ·
    obtain ⟨p, hpm, rfl⟩ := List.mem_map.1 h
    have h0 := (mem_ready.1 hi).1
    have hl := getD_lt h0
    rw [getD_tf hl, (hU.2 _ (by rw [← hU.1]; exact hl)).2 (.inr (.inr (List.mem_map.2 ⟨p, hpm, rfl⟩)))] at h0
    cases h0
   · exact ⟨al, h, rfl⟩
  have hdepd : ∀ p ∈ done, ∀ o, ops[p.1.k]? = some o -> ∀ e ∈ o.after, Region.binds md e = true -> l0.getD e.on false = true := by
   intro p hpm o ho e he hb
   obtain ⟨o', ho', hdep⟩ := hok.dep p.1 ((hmem p.1).2 (.inl (List.mem_map.2 ⟨p, hpm, rfl⟩)))
   rw [ho] at ho'
   cases ho'
   exact hdep e he hb
  have hUpre : ∀ i, i ∉ ls.map (·.k) -> i ∈ Region.ready md ops (mrk l0 pre) -> i ∈ Region.ready md ops listed := by
   intro i hni hi
   refine ready_more (Ups.mrk l0 pre) hU (fun x hx => .inl hx) hi ?_
   rintro (h | h)
   ·
    have h0 := (mem_ready.1 hi).1
    have hl := getD_lt h0
    rw [getD_tf hl] at h0
    rw [mrk_size] at hl
    rw [(mrk_get pre l0 i hl).2 (.inr h)] at h0
    cases h0
   obtain ⟨p, hpm, rfl⟩ := List.mem_map.1 h
   exact hni (List.mem_map.2 ⟨p.1, (hmem p.1).2 (.inl (List.mem_map.2 ⟨p, hpm, rfl⟩)), rfl⟩)
  cases hch with
  | nil _ _ _ _ _ _ =>
   have hpre : pre = isA := by simpa using hp
   subst hpre
   obtain ⟨al0, hal0⟩ : ∃ al, al ∈ rem := by
    cases rem with
    | nil => simp at hr
    | cons x _ => exact ⟨x, .head _⟩
   refine ⟨fun h0 => ?_, fun i hi => ?_⟩
   · have := rdalloc al0 hal0; rw [h0] at this; cases this
   by_cases hm : i ∈ ls.map (·.k)
   ·
    obtain ⟨al, hal, rfl⟩ := among i hi hm
    exact doalloc al hal
   exfalso
   have hals := (hmem al0).2 (.inr hal0)
   have h1 : i ∈ Region.ready md ops (mrk l0 (pre ++ ((ls.map (·.k)).filter (fun k => k != al0.k)))) := by
    refine ready_more hU (Ups.mrk l0 _) (fun x hx => ?_) hi ?_
    ·
     rcases hx with hx | hx
     · exact List.mem_append.2 (.inl hx)
     refine List.mem_append.2 (.inr (List.mem_filter.2 ⟨?_, ?_⟩))
     ·
      obtain ⟨p, hpm, rfl⟩ := List.mem_map.1 hx
      exact List.mem_map.2 ⟨p.1, (hmem p.1).2 (.inl (List.mem_map.2 ⟨p, hpm, rfl⟩)), rfl⟩
     obtain ⟨p, hpm, rfl⟩ := List.mem_map.1 hx
     have : p.1.k ≠ al0.k := fun e => by
      rw [List.map_append, List.nodup_append] at hknd
      exact hknd.2.2 p.1.k (List.mem_map.2 ⟨p.1, List.mem_map.2 ⟨p, hpm, rfl⟩, rfl⟩) al0.k (List.mem_map.2 ⟨al0, hal0, rfl⟩) e
     simpa using this
    intro hx
    rcases List.mem_append.1 hx with hx | hx
    ·
     have h0 := (mem_ready.1 hi).1
     have hl := getD_lt h0
     rw [getD_tf hl, (hU.2 _ (by rw [← hU.1]; exact hl)).2 (.inr (.inl hx))] at h0
     cases h0
    · exact hm (List.mem_filter.1 hx).1
   rw [hok.last al0 hals, List.mem_singleton] at h1
   exact hm (List.mem_map.2 ⟨al0, hals, h1.symm⟩)
  | call _ i is' _ U' _ _ Lb' _ hst0 hS0 hV0 hc hs hr' =>
   simp only [Bool.and_eq_true, decide_eq_true_eq, beq_iff_eq, List.contains_iff_mem] at hc
   obtain ⟨⟨⟨hc1, hc2⟩, hc3⟩, hc4⟩ := hc
   have hiA : i ∈ isA := hp ▸ List.mem_append.2 (.inr (.head _))
   have hni : i ∉ ls.map (·.k) := fun h => by obtain ⟨al, hal, e⟩ := List.mem_map.1 h; exact hok.ki al hal (e ▸ hiA)
   have hir := hUpre i hni hc2
   refine ⟨fun h0 => (by rw [h0] at hir; cases hir), fun x hx => ?_⟩
   by_cases hm : x ∈ ls.map (·.k)
   ·
    obtain ⟨al, hal, rfl⟩ := among x hx hm
    exact doalloc al hal
   have h1 : x ∈ Region.ready md ops (mrk l0 (pre ++ ls.map (·.k))) := by
    refine ready_more hU (Ups.mrk l0 _) (fun y hy => ?_) hx ?_
    ·
     rcases hy with hy | hy
     · exact List.mem_append.2 (.inl hy)
     obtain ⟨p, hpm, rfl⟩ := List.mem_map.1 hy
     exact List.mem_append.2 (.inr (List.mem_map.2 ⟨p.1, (hmem p.1).2 (.inl (List.mem_map.2 ⟨p, hpm, rfl⟩)), rfl⟩))
    intro hy
    rcases List.mem_append.1 hy with hy | hy
    ·
     have h0 := (mem_ready.1 hx).1
     have hl := getD_lt h0
     rw [getD_tf hl, (hU.2 _ (by rw [← hU.1]; exact hl)).2 (.inr (.inl hy))] at h0
     cases h0
    · exact hm hy
   rw [hc1, List.mem_singleton] at h1
   subst h1
   have h2 := hs (slot a.tmps) w (done.map boxOf) hst.u (hG.perm _ _ _ hst.g List.perm_append_comm)
   rw [← frame_slots hst.size] at h2
   have ha : a = { tmps := a.tmps, defers := [] } := by obtain ⟨T, D⟩ := a; have := hst.defers; simp only at this; rw [this]
   rw [ha]
   refine wpOp_mono (fun a' w' h3 => ?_) h2
   obtain ⟨h4, h5, h6, h7, h8, h9⟩ := h3
   refine ⟨fun _ => h9, ih (pre ++ [x]) is' U' Lb' done rem _ a' w' (by rw [List.append_assoc]; exact hp) (by simp at hr ⊢; omega) hr' hperm (hU.set.congr fun y => ?_) ⟨h4, h5, h6, fun p hpm => ?_, hG.perm _ _ _ h8 List.perm_append_comm⟩⟩
   ·
    rw [List.mem_append, List.mem_singleton]
    constructor
    ·
     rintro ((h | h) | h)
     · exact .inl (.inl h)
     · exact .inr h
     · exact .inl (.inr h)
    rintro ((h | h) | h)
    · exact .inl (.inl h)
    · exact .inr h
    · exact .inl (.inr h)
   rw [h7 p.1 ((hmem p.1).2 (.inl (List.mem_map.2 ⟨p, hpm, rfl⟩)))]
   exact hst.ptr p hpm
  | pure _ i oi is' _ U' _ _ _ hi hst0 hS0 hV0 hc hs hr' =>
   simp only [Bool.and_eq_true, decide_eq_true_eq, List.contains_iff_mem] at hc
   obtain ⟨⟨⟨hc1, hc2⟩, hc3⟩, hc4⟩ := hc
   have hiA : i ∈ isA := hp ▸ List.mem_append.2 (.inr (.head _))
   have hni : i ∉ ls.map (·.k) := fun h => by obtain ⟨al, hal, e⟩ := List.mem_map.1 h; exact hok.ki al hal (e ▸ hiA)
   have hir := hUpre i hni hc2
   have ha : a = { tmps := ((List.range n).map (slot a.tmps)).toArray, defers := [] } := by
    obtain ⟨T, D⟩ := a
    have := hst.defers
    simp only at this
    rw [this, ← frame_slots hst.size]
   obtain ⟨v, hy, ⟨h4, h5⟩, h6, h7⟩ := hs (slot a.tmps) hst.u
   rw [← ha] at hy h4 h5 h6 h7
   refine wpAnyU_pure hi (Region.noSelect_spec hok.sel) (fun c a' w' h => by cases hdst : oi.dst with | none => (rw [hdst] at h; exact h) | some q => (rw [hdst] at h; exact hQ c a' q v w' h)) hc3 _ listed a w (closed_more hU hc4 hdepd) ?_ hir hy (fun _ => hSG _ _ hst.g) ?_
   ·
    intro j oj hj hne hun hno
    refine Region.free_spec hi hc1 j oj hj hne ?_ hno
    have hjs : j < l0.size := by rw [hok.size]; exact (Array.getElem?_eq_some_iff.1 hj).1
    have hl : j < listed.size := by rw [hU.1]; exact hjs
    have hl2 : j < (mrk l0 pre).size := by rw [mrk_size]; exact hjs
    rw [getD_tf hl] at hun
    rw [getD_tf hl2]
    have : ¬ (mrk l0 pre).getD j false = true := fun e => by
     rcases (mrk_get pre l0 j hjs).1 e with e1 | e1
     · rw [(hU.2 j hjs).2 (.inl e1)] at hun; cases hun
     · rw [(hU.2 j hjs).2 (.inr (.inl e1))] at hun; cases hun
    simpa using this
   refine ih (pre ++ [i]) is' U' Lb done rem _ _ w (by rw [List.append_assoc]; exact hp) (by simp at hr ⊢; omega) hr' hperm (hU.set.congr fun y => ?_) ⟨h4, h5, h6, fun p hpm => ?_, hst.g⟩
   ·
    rw [List.mem_append, List.mem_singleton]
    constructor
    ·
     rintro ((h | h) | h)
     · exact .inl (.inl h)
     · exact .inr h
     · exact .inl (.inr h)
    rintro ((h | h) | h)
    · exact .inl (.inl h)
    · exact .inr h
    · exact .inl (.inr h)
   rw [h7 p.1 ((hmem p.1).2 (.inl (List.mem_map.2 ⟨p, hpm, rfl⟩)))]
   exact hst.ptr p hpm
theorem ru_mix {G : List Res -> World -> Prop} (hG : GoodG G) (n : Nat) (ls : List AllocS) (isA : List Nat) (fuelF : Nat) {listed : Array Bool} {a : Act} {w : World} (hok : mixOk ops md listed isA ls d = true)
  (hnd : (ls.all (fun al => decide (al.d < n)) && decide (ls.map (·.d)).Nodup) = true) (hQ : ∀ c a q v w, Q (.panic c) (Act.put a (some q) v) w -> Q (.panic c) a w) {V U0 Um : (Nat -> Value) -> Prop} {L0 Lm : List Res}
  (hch : Chain P ops Q G S V n ls md listed d [] isA U0 L0 Um Lm)
  (halloc : ∀ al ∈ ls, ∀ (t : Nat -> Value) (w : World) (K : Act -> World -> Prop), V t -> K (Act.put { tmps := ((List.range n).map t).toArray, defers := [] } (some al.d) (al.v w.heap.size)) (w.alloc (.cells al.cs al.t)) -> wpOp P ops Q al.k K { tmps := ((List.range n).map t).toArray, defers := [] } w)
  (h0 : a.tmps.size = n /\ a.defers = [] /\ U0 (slot a.tmps)) (hF : G L0 w)
  (hrest : ∀ (t : Nat -> Value) (w : World) (g : Nat -> Nat), Um t -> (∀ al ∈ ls, t al.d = al.v (g al.k)) -> G (ls.map (fun al => rbox (g al.k) al.t al.cs) ++ Lm) w →
   wpAnyU P md ops Q S d fuelF (mrk listed (isA ++ ls.map (·.k))) { tmps := ((List.range n).map t).toArray, defers := [] } w) :
  wpAnyU P md ops Q S d (fuelF + (isA.length + ls.length)) listed a w := by
 simp only [Bool.and_eq_true, decide_eq_true_eq, List.all_eq_true] at hnd
 have hok' := mixOk_spec hok
 refine mix_go hG hok' hQ hnd.1 hnd.2 halloc (fun done a w hp hst => ?_) _ [] isA U0 L0 [] ls listed a w rfl rfl hch (by simp) ⟨rfl, fun i hi => by simp⟩ ⟨h0.1, h0.2.1, h0.2.2, (fun _ h => by cases h), hF⟩
 obtain ⟨g, hg⟩ : ∃ g : Nat -> Nat, ∀ p ∈ done, g p.1.k = p.2 := by
  refine ⟨fun k => ((done.find? (fun p => p.1.k == k)).map (·.2)).getD 0, fun p hpm => ?_⟩
  have hnd2 : ((done.map (·.1)).map (·.k)).Nodup := (hp.map (·.k)).nodup_iff.2 hok'.nodup
  have key : ∀ (l : List (AllocS × Nat)), ((l.map (·.1)).map (·.k)).Nodup -> p ∈ l -> (l.find? (fun q => q.1.k == p.1.k)) = some p := by
   intro l
   induction l with
   | nil => intro _ h; cases h
   | cons x l ih =>
    intro hn hm
    rw [List.map_cons, List.map_cons, List.nodup_cons] at hn
    by_cases e : x.1.k = p.1.k
    ·
     rcases List.mem_cons.1 hm with rfl | hm
     · simp
     · exact absurd (List.mem_map.2 ⟨p.1, List.mem_map.2 ⟨p, hm, rfl⟩, e.symm⟩) hn.1
    rcases List.mem_cons.1 hm with rfl | hm
    · exact absurd rfl e
    rw [List.find?_cons_of_neg (by simpa using e)]
    exact ih hn.2 hm
  simp only [key done hnd2 hpm, Option.map_some, Option.getD_some]
 have ha : a = { tmps := ((List.range n).map (slot a.tmps)).toArray, defers := [] } := by
  obtain ⟨T, D⟩ := a
  have := hst.defers
  simp only at this
  rw [this, ← frame_slots hst.size]
 rw [ha]
 refine hrest (slot a.tmps) w g hst.u (fun al hal => ?_) (hG.perm _ _ _ hst.g ?_)
 ·
  obtain ⟨p, hpm, rfl⟩ := List.mem_map.1 (hp.mem_iff.2 hal)
  rw [hg p hpm]
  exact hst.ptr p hpm
 refine List.Perm.append_right _ ?_
 have e : done.map boxOf = (done.map (·.1)).map (fun al => rbox (g al.k) al.t al.cs) := by
  rw [List.map_map]
  refine List.map_congr_left fun p hpm => ?_
  simp only [boxOf, Function.comp, hg p hpm]
 rw [e]
 exact hp.map _
end
section
variable {w0 A B : World} {L : List Res} {sd : Nat}
end
theorem Bun.s {w0 A : World} {L : List Res} (h : Bun w0 L A) (i : Nat) {α : Type} {enc : α -> List Value} {sz lo hi : Nat} {v : Value} {l : List α} (e : L[i]? = some (rsl enc sz lo hi v l)) : Sl enc sz lo hi A v l := h.at i e
theorem Bun.b {w0 A : World} {L : List Res} (h : Bun w0 L A) (i : Nat) {g : Nat} {t : TypeId} {cs : Array Value} (e : (L[i]?).map Res.P = some (fun w => Bk w g t cs)) : Bk A g t cs := by
 cases hr : L[i]? with
 | none => rw [hr] at e; cases e
 | some r =>
  rw [hr] at e
  have e2 : r.P = fun w => Bk w g t cs := Option.some.inj e
  have h2 := h.at i hr
  rw [e2] at h2
  exact h2
theorem Bun.o {w0 A : World} {L : List Res} (h : Bun w0 L A) (i : Nat) {α : Type} {enc : α -> List Value} {t : TypeId} {sz base : Nat} {v : Value} {l : List α} (e : L[i]? = some (rown enc t sz base v l)) : Own enc t sz base A v l := h.at i e
theorem Bus.s {w0 A : World} {sd : Nat} {L : List Res} (h : Bus w0 sd L A) (i : Nat) {α : Type} {enc : α -> List Value} {sz lo hi : Nat} {v : Value} {l : List α} (e : L[i]? = some (rsl enc sz lo hi v l)) : Sl enc sz lo hi A v l := h.at i e
theorem Bus.b {w0 A : World} {sd : Nat} {L : List Res} (h : Bus w0 sd L A) (i : Nat) {g : Nat} {t : TypeId} {cs : Array Value} (e : (L[i]?).map Res.P = some (fun w => Bk w g t cs)) : Bk A g t cs := by
 cases hr : L[i]? with
 | none => rw [hr] at e; cases e
 | some r =>
  rw [hr] at e
  have e2 : r.P = fun w => Bk w g t cs := Option.some.inj e
  have h2 := h.at i hr
  rw [e2] at h2
  exact h2
theorem Bus.o {w0 A : World} {sd : Nat} {L : List Res} (h : Bus w0 sd L A) (i : Nat) {α : Type} {enc : α -> List Value} {t : TypeId} {sz base : Nat} {v : Value} {l : List α} (e : L[i]? = some (rown enc t sz base v l)) : Own enc t sz base A v l := h.at i e
theorem Bun.e8 {w0 A : World} {L : List Res} (h : Bun w0 L A) (i p0 p1 p2 p3 p4 p5 p6 p7 : Nat) {g : Nat} {t : TypeId} {cs : Array Value} {a0 a1 a2 a3 a4 a5 a6 a7 : Value} (e : L[i]? = some (rbox g t cs) := by exact rfl) (f0 : cs[p0]? = some a0 := by exact rfl) (f1 : cs[p1]? = some a1 := by exact rfl) (f2 : cs[p2]? = some a2 := by exact rfl) (f3 : cs[p3]? = some a3 := by exact rfl) (f4 : cs[p4]? = some a4 := by exact rfl) (f5 : cs[p5]? = some a5 := by exact rfl) (f6 : cs[p6]? = some a6 := by exact rfl) (f7 : cs[p7]? = some a7 := by exact rfl) : E8 A g p0 p1 p2 p3 p4 p5 p6 p7 a0 a1 a2 a3 a4 a5 a6 a7 := ⟨h.cl i p0 e f0, h.cl i p1 e f1, h.cl i p2 e f2, h.cl i p3 e f3, h.cl i p4 e f4, h.cl i p5 e f5, h.cl i p6 e f6, h.cl i p7 e f7⟩
theorem Bun.c2 {w0 A : World} {L : List Res} (h : Bun w0 L A) (i : Nat) {g : Nat} {t : TypeId} {cs : Array Value} {a0 a1 : Value} (e : L[i]? = some (rbox g t cs) := by exact rfl) (f0 : cs[0]? = some a0 := by exact rfl) (f1 : cs[1]? = some a1 := by exact rfl) : C2 A g a0 a1 := ⟨h.cl i 0 e f0, h.cl i 1 e f1⟩
theorem Bun.c3 {w0 A : World} {L : List Res} (h : Bun w0 L A) (i : Nat) {g : Nat} {t : TypeId} {cs : Array Value} {a0 a1 a2 : Value} (e : L[i]? = some (rbox g t cs) := by exact rfl) (f0 : cs[0]? = some a0 := by exact rfl) (f1 : cs[1]? = some a1 := by exact rfl) (f2 : cs[2]? = some a2 := by exact rfl) : C3 A g a0 a1 a2 := ⟨h.cl i 0 e f0, h.cl i 1 e f1, h.cl i 2 e f2⟩
theorem Bun.c4 {w0 A : World} {L : List Res} (h : Bun w0 L A) (i : Nat) {g : Nat} {t : TypeId} {cs : Array Value} {a0 a1 a2 a3 : Value} (e : L[i]? = some (rbox g t cs) := by exact rfl) (f0 : cs[0]? = some a0 := by exact rfl) (f1 : cs[1]? = some a1 := by exact rfl) (f2 : cs[2]? = some a2 := by exact rfl) (f3 : cs[3]? = some a3 := by exact rfl) : C4 A g a0 a1 a2 a3 := ⟨h.cl i 0 e f0, h.cl i 1 e f1, h.cl i 2 e f2, h.cl i 3 e f3⟩
theorem Bun.c5 {w0 A : World} {L : List Res} (h : Bun w0 L A) (i : Nat) {g : Nat} {t : TypeId} {cs : Array Value} {a0 a1 a2 a3 a4 : Value} (e : L[i]? = some (rbox g t cs) := by exact rfl) (f0 : cs[0]? = some a0 := by exact rfl) (f1 : cs[1]? = some a1 := by exact rfl) (f2 : cs[2]? = some a2 := by exact rfl) (f3 : cs[3]? = some a3 := by exact rfl) (f4 : cs[4]? = some a4 := by exact rfl) : C5 A g a0 a1 a2 a3 a4 := ⟨h.cl i 0 e f0, h.cl i 1 e f1, h.cl i 2 e f2, h.cl i 3 e f3, h.cl i 4 e f4⟩
theorem Bun.c6 {w0 A : World} {L : List Res} (h : Bun w0 L A) (i : Nat) {g : Nat} {t : TypeId} {cs : Array Value} {a0 a1 a2 a3 a4 a5 : Value} (e : L[i]? = some (rbox g t cs) := by exact rfl) (f0 : cs[0]? = some a0 := by exact rfl) (f1 : cs[1]? = some a1 := by exact rfl) (f2 : cs[2]? = some a2 := by exact rfl) (f3 : cs[3]? = some a3 := by exact rfl) (f4 : cs[4]? = some a4 := by exact rfl) (f5 : cs[5]? = some a5 := by exact rfl) : C6 A g a0 a1 a2 a3 a4 a5 := ⟨h.cl i 0 e f0, h.cl i 1 e f1, h.cl i 2 e f2, h.cl i 3 e f3, h.cl i 4 e f4, h.cl i 5 e f5⟩
theorem Bun.c8 {w0 A : World} {L : List Res} (h : Bun w0 L A) (i : Nat) {g : Nat} {t : TypeId} {cs : Array Value} {a0 a1 a2 a3 a4 a5 a6 a7 : Value} (e : L[i]? = some (rbox g t cs) := by exact rfl) (f0 : cs[0]? = some a0 := by exact rfl) (f1 : cs[1]? = some a1 := by exact rfl) (f2 : cs[2]? = some a2 := by exact rfl) (f3 : cs[3]? = some a3 := by exact rfl) (f4 : cs[4]? = some a4 := by exact rfl) (f5 : cs[5]? = some a5 := by exact rfl) (f6 : cs[6]? = some a6 := by exact rfl) (f7 : cs[7]? = some a7 := by exact rfl) : C8 A g a0 a1 a2 a3 a4 a5 a6 a7 := ⟨h.cl i 0 e f0, h.cl i 1 e f1, h.cl i 2 e f2, h.cl i 3 e f3, h.cl i 4 e f4, h.cl i 5 e f5, h.cl i 6 e f6, h.cl i 7 e f7⟩
theorem Bus.e8 {w0 A : World} {sd : Nat} {L : List Res} (h : Bus w0 sd L A) (i p0 p1 p2 p3 p4 p5 p6 p7 : Nat) {g : Nat} {t : TypeId} {cs : Array Value} {a0 a1 a2 a3 a4 a5 a6 a7 : Value} (e : L[i]? = some (rbox g t cs) := by exact rfl) (f0 : cs[p0]? = some a0 := by exact rfl) (f1 : cs[p1]? = some a1 := by exact rfl) (f2 : cs[p2]? = some a2 := by exact rfl) (f3 : cs[p3]? = some a3 := by exact rfl) (f4 : cs[p4]? = some a4 := by exact rfl) (f5 : cs[p5]? = some a5 := by exact rfl) (f6 : cs[p6]? = some a6 := by exact rfl) (f7 : cs[p7]? = some a7 := by exact rfl) : E8 A g p0 p1 p2 p3 p4 p5 p6 p7 a0 a1 a2 a3 a4 a5 a6 a7 := ⟨h.cl i p0 e f0, h.cl i p1 e f1, h.cl i p2 e f2, h.cl i p3 e f3, h.cl i p4 e f4, h.cl i p5 e f5, h.cl i p6 e f6, h.cl i p7 e f7⟩
theorem Bus.c2 {w0 A : World} {sd : Nat} {L : List Res} (h : Bus w0 sd L A) (i : Nat) {g : Nat} {t : TypeId} {cs : Array Value} {a0 a1 : Value} (e : L[i]? = some (rbox g t cs) := by exact rfl) (f0 : cs[0]? = some a0 := by exact rfl) (f1 : cs[1]? = some a1 := by exact rfl) : C2 A g a0 a1 := ⟨h.cl i 0 e f0, h.cl i 1 e f1⟩
theorem Bus.c3 {w0 A : World} {sd : Nat} {L : List Res} (h : Bus w0 sd L A) (i : Nat) {g : Nat} {t : TypeId} {cs : Array Value} {a0 a1 a2 : Value} (e : L[i]? = some (rbox g t cs) := by exact rfl) (f0 : cs[0]? = some a0 := by exact rfl) (f1 : cs[1]? = some a1 := by exact rfl) (f2 : cs[2]? = some a2 := by exact rfl) : C3 A g a0 a1 a2 := ⟨h.cl i 0 e f0, h.cl i 1 e f1, h.cl i 2 e f2⟩
theorem Bus.c4 {w0 A : World} {sd : Nat} {L : List Res} (h : Bus w0 sd L A) (i : Nat) {g : Nat} {t : TypeId} {cs : Array Value} {a0 a1 a2 a3 : Value} (e : L[i]? = some (rbox g t cs) := by exact rfl) (f0 : cs[0]? = some a0 := by exact rfl) (f1 : cs[1]? = some a1 := by exact rfl) (f2 : cs[2]? = some a2 := by exact rfl) (f3 : cs[3]? = some a3 := by exact rfl) : C4 A g a0 a1 a2 a3 := ⟨h.cl i 0 e f0, h.cl i 1 e f1, h.cl i 2 e f2, h.cl i 3 e f3⟩
theorem Bus.c5 {w0 A : World} {sd : Nat} {L : List Res} (h : Bus w0 sd L A) (i : Nat) {g : Nat} {t : TypeId} {cs : Array Value} {a0 a1 a2 a3 a4 : Value} (e : L[i]? = some (rbox g t cs) := by exact rfl) (f0 : cs[0]? = some a0 := by exact rfl) (f1 : cs[1]? = some a1 := by exact rfl) (f2 : cs[2]? = some a2 := by exact rfl) (f3 : cs[3]? = some a3 := by exact rfl) (f4 : cs[4]? = some a4 := by exact rfl) : C5 A g a0 a1 a2 a3 a4 := ⟨h.cl i 0 e f0, h.cl i 1 e f1, h.cl i 2 e f2, h.cl i 3 e f3, h.cl i 4 e f4⟩
theorem Bus.c6 {w0 A : World} {sd : Nat} {L : List Res} (h : Bus w0 sd L A) (i : Nat) {g : Nat} {t : TypeId} {cs : Array Value} {a0 a1 a2 a3 a4 a5 : Value} (e : L[i]? = some (rbox g t cs) := by exact rfl) (f0 : cs[0]? = some a0 := by exact rfl) (f1 : cs[1]? = some a1 := by exact rfl) (f2 : cs[2]? = some a2 := by exact rfl) (f3 : cs[3]? = some a3 := by exact rfl) (f4 : cs[4]? = some a4 := by exact rfl) (f5 : cs[5]? = some a5 := by exact rfl) : C6 A g a0 a1 a2 a3 a4 a5 := ⟨h.cl i 0 e f0, h.cl i 1 e f1, h.cl i 2 e f2, h.cl i 3 e f3, h.cl i 4 e f4, h.cl i 5 e f5⟩
theorem Bus.c8 {w0 A : World} {sd : Nat} {L : List Res} (h : Bus w0 sd L A) (i : Nat) {g : Nat} {t : TypeId} {cs : Array Value} {a0 a1 a2 a3 a4 a5 a6 a7 : Value} (e : L[i]? = some (rbox g t cs) := by exact rfl) (f0 : cs[0]? = some a0 := by exact rfl) (f1 : cs[1]? = some a1 := by exact rfl) (f2 : cs[2]? = some a2 := by exact rfl) (f3 : cs[3]? = some a3 := by exact rfl) (f4 : cs[4]? = some a4 := by exact rfl) (f5 : cs[5]? = some a5 := by exact rfl) (f6 : cs[6]? = some a6 := by exact rfl) (f7 : cs[7]? = some a7 := by exact rfl) : C8 A g a0 a1 a2 a3 a4 a5 a6 a7 := ⟨h.cl i 0 e f0, h.cl i 1 e f1, h.cl i 2 e f2, h.cl i 3 e f3, h.cl i 4 e f4, h.cl i 5 e f5, h.cl i 6 e f6, h.cl i 7 e f7⟩
end Go.Proofs.YtcoldeolmleeiaaGreat
